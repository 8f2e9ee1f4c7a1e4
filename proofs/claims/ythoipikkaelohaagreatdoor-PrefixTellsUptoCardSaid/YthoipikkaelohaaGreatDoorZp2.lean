/-
  Parts: MaI MaF MaG MaR MaS MaO MaH MaT Pl Qa Qf Qk Qp Qc.
-/
import Derived.ProofKit
import Derived.Deep.Slices
import Derived.Below
import Derived.LoopN
import Derived.Deep.LoopGhost
import Derived.Lib.Split
import Derived.Lib.SplitLaws
import Derived.Lib.Join
import Derived.Lib.ItoaNum
import Derived.Lib.Atoi
import Derived.Lib.AtoiAll
import Derived.Lib.AtoiAllCases
import Derived.Lib.ParseIntB
import Derived.Lib.Bytealg
import Derived.Laws.Entries
import Derived.Lib.IndexMore
import Derived.Test.YthoipikkaelohaaGreatDoorZp1
set_option linter.unusedVariables false
set_option linter.unusedSimpArgs false
namespace Go.Ma
open Go Go.RowKit
section
variable {T : Nat → TI} {E : Env} {t t' : List SV} {m : Mem}
theorem map_ev {l : List Operand} (h : ∀ x ∈ l, ev t x = ev t' x) : l.map (ev t) = l.map (ev t') := List.map_congr_left h
theorem buildS_congr {fs : List (Nat × TypeId)} : ∀ (ps : List (Nat × Operand)) (cs : List SV), (∀ p ∈ ps, ev t p.2 = ev t' p.2) → buildS T t fs ps cs = buildS T t' fs ps cs
 | [], _, _ => rfl
 | (i, x) :: r, cs, h => by
  have hx : ev t x = ev t' x := h (i, x) (by simp)
  simp only [buildS, hx]
  cases fs[i]? with
  | none => rfl
  | some q =>
   simp only
   split
   ·rfl
   ·exact buildS_congr r _ fun p hp => h p (by simp [hp])
theorem litCells_congr {sz n : Nat} : ∀ (ps : List (Nat × Operand)) (cs : List SV), (∀ p ∈ ps, ev t p.2 = ev t' p.2) → litCells t sz n ps cs = litCells t' sz n ps cs
 | [], _, _ => rfl
 | (i, x) :: r, cs, h => by
  have hx : ev t x = ev t' x := h (i, x) (by simp)
  simp only [litCells, hx]
  split
  ·rfl
  ·exact litCells_congr r _ fun p hp => h p (by simp [hp])
theorem opq_congr (op : Op) (h : ∀ x ∈ op.operands, ev t x = ev t' x) : opq T t m op = opq T t' m op := by
 cases op <;> simp only [Op.operands] at h <;> simp only [opq]
 case move x => rw [h x (by simp)]
 case assign x => rw [h x (by simp)]
 case pick c a b => rw [h c (by simp), h a (by simp), h b (by simp)]
 case load ty a => rw [h a (by simp)]
 case fieldAddr ty x f => rw [h x (by simp)]
 case field ty x f => rw [h x (by simp)]
 case build ty ps => rw [buildS_congr ps.toList _ (fun p hp => h p.2 (by simp; exact ⟨p.1, by simpa using hp⟩))]
 case binOp o ty x y yt => rw [h x (by simp), h y (by simp)]
 case unOp o ty x => cases o <;> simp only [opq] <;> first | rfl | rw [h x (by simp)]
 case convert a b x => rw [h x (by simp)]
 case extract x i => rw [h x (by simp)]
 case nilCheck x => rw [h x (by simp)]
 case makeFunc fn first caps =>
  have hc : caps.toList.map (ev t) = caps.toList.map (ev t') := map_ev fun x hx => h x (by simp at hx ⊢; exact .inr hx)
  have ha : caps.toList.all (fun x => !(ev t x).isAny) = caps.toList.all (fun x => !(ev t' x).isAny) := by
   have := congrArg (fun l => List.all l (fun s : SV => !s.isAny)) hc
   simpa [List.all_map, Function.comp_def] using this
  cases fn <;> simp only [opq, hc, ha]
 case index ty x i => rw [h x (by simp), h i (by simp)]
 case indexAddr ty x i => rw [h x (by simp), h i (by simp)]
 case slice ty x lo hi mx =>
  have hx := h x (by simp)
  cases mx with
  | some _ => simp only [opq]
  | none => cases lo <;> cases hi <;> simp only [opq, hx] <;> simp_all
 case call c =>
  split
  ·rename_i x at_ hc hargs hat
   have hx := h x (by simp [Call.operands]; exact .inr (by rw [← Array.mem_toList_iff, hargs]; simp))
   rw [hx]
  ·rename_i x y hc hargs
   have hx := h x (by simp [Call.operands]; exact .inr (by rw [← Array.mem_toList_iff, hargs]; simp))
   have hy := h y (by simp [Call.operands]; exact .inr (by rw [← Array.mem_toList_iff, hargs]; simp))
   rw [hx, hy]
  ·rfl
theorem opa_congr (op : Op) (h : ∀ x ∈ op.operands, ev t x = ev t' x) : opa T t op = opa T t' op := by
 cases op <;> simp only [Op.operands] at h <;> simp only [opa]
 case box ty x => rw [h x (by simp)]
 case buildSlice ty n ps => rw [litCells_congr ps.toList _ (fun p hp => h p.2 (by simp; exact ⟨p.1, by simpa using hp⟩))]
theorem opst_congr (op : Op) (h : ∀ x ∈ op.operands, ev t x = ev t' x) : opst T t m op = opst T t' m op := by
 cases op <;> simp only [Op.operands] at h <;> simp only [opst]
 case store ty a x => rw [h a (by simp), h x (by simp)]
theorem oprd_congr (op : Op) (h : ∀ x ∈ op.operands, ev t x = ev t' x) : oprd T t m op = oprd T t' m op := by
 cases op <;> simp only [Op.operands] at h <;> simp only [oprd]
 case load ty a => rw [h a (by simp)]
theorem bndE_congr {x : Option Operand} {d : Int} (h : ∀ y, x = some y → ev t y = ev t' y) : bndE t x d = bndE t' x d := by
 cases x with
 | none => rfl
 | some y => simp only [bndE, h y rfl]
theorem opsl_congr (op : Op) (h : ∀ x ∈ op.operands, ev t x = ev t' x) : opsl T t m op = opsl T t' m op := by
 cases op <;> simp only [Op.operands] at h <;> simp only [opsl]
 case slice ty x lo hi mx =>
  cases mx with
  | some _ => simp only [opsl]
  | none =>
   have hx := h x (by simp)
   have hlo : ∀ d, bndE t lo d = bndE t' lo d := fun d => bndE_congr fun y hy => h y (by simp [hy])
   have hhi : ∀ d, bndE t hi d = bndE t' hi d := fun d => bndE_congr fun y hy => h y (by simp [hy])
   simp only [opsl, hx, hlo, hhi]
theorem opsr_congr (op : Op) (h : ∀ x ∈ op.operands, ev t x = ev t' x) : opsr T t m op = opsr T t' m op := by
 cases op <;> simp only [Op.operands] at h <;> simp only [opsr]
 case store ty a x => rw [h a (by simp), h x (by simp)]
theorem opap_congr (op : Op) (h : ∀ x ∈ op.operands, ev t x = ev t' x) : opap T t m op = opap T t' m op := by
 cases op <;> simp only [Op.operands] at h <;> simp only [opap]
 case call c =>
  split
  ·rename_i x y ty ty' hc hargs hat
   have hx := h x (by simp [Call.operands]; exact .inr (by rw [← Array.mem_toList_iff, hargs]; simp))
   have hy := h y (by simp [Call.operands]; exact .inr (by rw [← Array.mem_toList_iff, hargs]; simp))
   simp only [ownRow, srcRow, hx, hy]
  ·rfl
theorem opcall_congr (op : Op) (h : ∀ x ∈ op.operands, ev t x = ev t' x) : opcall E t op = opcall E t' op := by
 cases op <;> simp only [Op.operands] at h <;> simp only [opcall]
 case call c =>
  split
  ·rename_i f hf
   have h1 := h f (by simp [Call.operands, hf])
   have h2 : c.args.toList.map (ev t) = c.args.toList.map (ev t') := map_ev fun x hx => h x (by simp [Call.operands]; exact .inr (by simpa using hx))
   simp only [h1, h2]
  ·rfl
theorem opnl_congr (oty : TypeId) (op : Op) (h : ∀ x ∈ op.operands, ev t x = ev t' x) : opnl T t m oty op = opnl T t' m oty op := by
 cases op
 case buildSlice ty n ps =>
  simp only [Op.operands] at h
  have : ∀ cs, litCells t (T (T ty).elem).size n ps.toList cs = litCells t' (T (T ty).elem).size n ps.toList cs := fun cs => litCells_congr _ _ fun p hp => h p.2 (by simp; exact ⟨p.1, by simpa using hp⟩)
  simp only [opnl, this]
 all_goals rfl
theorem opan_congr (op : Op) (h : ∀ x ∈ op.operands, ev t x = ev t' x) : opan T t m op = opan T t' m op := by
 cases op <;> simp only [Op.operands] at h <;> simp only [opan]
 case call c =>
  split
  ·rename_i x y ty ty' hc hargs hat
   have h1 := h x (by simp [Call.operands]; exact .inr (by rw [← Array.mem_toList_iff, hargs]; simp))
   have h2 := h y (by simp [Call.operands]; exact .inr (by rw [← Array.mem_toList_iff, hargs]; simp))
   rw [h1, h2]
  ·rfl
theorem opsn_congr (op : Op) (h : ∀ x ∈ op.operands, ev t x = ev t' x) : opsn T t m op = opsn T t' m op := by
 cases op <;> simp only [Op.operands] at h <;> simp only [opsn]
 case store ty a x => rw [h a (by simp), h x (by simp)]
theorem opx0_congr {X : Type} (o : Oper) (k : SV → Mem → Option X) (h : ∀ x ∈ o.op.operands, ev t x = ev t' x) : opx0 E t o m k = opx0 E t' o m k := by
 unfold opx0
 rw [opnl_congr o.type o.op h, opq_congr o.op h, opa_congr o.op h, opst_congr o.op h, opap_congr o.op h, opan_congr o.op h, opsl_congr o.op h, oprd_congr o.op h, opsr_congr o.op h, opsn_congr o.op h, opcall_congr o.op h]
theorem post_congr {T : Nat → TI} (op : Op) (h : ∀ x ∈ op.operands, ev t x = ev t' x) (n : Nat) (m : Mem) : post T t n op m = post T t' n op m := by
 cases op <;> simp only [Op.operands] at h <;> simp only [post]
 case store ty a x => rw [h a (by simp)]
theorem pre_congr (op : Op) (h : ∀ x ∈ op.operands, ev t x = ev t' x) (m : Mem) : pre t m op = pre t' m op := by
 cases op <;> simp only [Op.operands] at h <;> simp only [pre]
 case call c =>
  split
  ·rename_i s r hc hargs
   have := h (.tmp s) (by simp [Call.operands]; exact .inr (by rw [← Array.mem_toList_iff, hargs]; simp))
   simp only [ev] at this
   rw [this]
  ·rfl
theorem pre_some {m : Mem} {op : Op} {c : Bool} {s : Nat} {m' : Mem} (h : pre t m op = some (c, s, m')) : ∃ cl r jb i, op = .call cl ∧ cl.callee = .builtin .append ∧ cl.args.toList = .tmp s :: r ∧ t.getD s .any = .inn jb i := by
 unfold pre at h
 split at h
 rotate_left
 ·cases h
 rename_i cl
 split at h
 rotate_left
 ·cases h
 rename_i s0 r hc hargs
 split at h
 rotate_left
 ·cases h
 rename_i jb i hs
 obtain ⟨m2, hm2, he⟩ := Option.map_eq_some_iff.1 h
 simp only [Prod.mk.injEq] at he
 obtain ⟨_, rfl, _⟩ := he
 exact ⟨cl, r, jb, i, rfl, hc, hargs, hs⟩
theorem opx_congr {X : Type} (o : Oper) (k : SV → Mem → Option X) (h : ∀ x ∈ o.op.operands, ev t x = ev t' x) : opx E t o m k = opx E t' o m k := by
 unfold opx
 rw [pre_congr o.op h]
 simp only [post_congr o.op h]
 cases hp : pre t' m o.op with
 | none => exact opx0_congr o _ h
 | some z =>
  obtain ⟨c, s, m'⟩ := z
  simp only
  congr 1
  obtain ⟨cl, r, jb, i, hop, hc, hargs, hs⟩ := pre_some hp
  have hs' : t.getD s .any = .inn jb i := by
   have := h (.tmp s) (by rw [hop]; simp [Op.operands, Call.operands]; exact .inr (by rw [← Array.mem_toList_iff, hargs]; simp))
   simp only [ev] at this
   rw [this, hs]
  have hlt : ∀ {u : List SV}, u.getD s .any = .inn jb i → s < u.length := fun {u} hu => by
   rcases Nat.lt_or_ge s u.length with h | h
   ·exact h
   ·rw [List.getD_eq_getElem?_getD, List.getElem?_eq_none h] at hu; cases hu
  refine opx0_congr o _ fun x hx => ?_
  have := h x hx
  cases x with
  | tmp q =>
   simp only [ev, List.getD_eq_getElem?_getD] at this ⊢
   by_cases hq : q = s
   ·subst hq
    rw [List.getElem?_set_self (hlt hs'), List.getElem?_set_self (hlt hs)]
   ·rw [List.getElem?_set_ne (fun e => hq e.symm), List.getElem?_set_ne (fun e => hq e.symm)]
    exact this
  | _ => rfl
end
def LawEnv (E : Env) : Prop := ∀ f g, E.call f = some g → g.det = true
def runO (E : Env) (t : List SV) (o : Oper) (m : Mem) : Option (SV × Mem) := opx E t o m fun v m' => some (v, m')
section
variable {P : Program} {E : Env} {t : List SV} {m : Mem} {o : Oper}
theorem opx0_law (hE : EnvOk P E) {X : Type} {k : SV → Mem → Option X} {x : X} (hl : ∀ g args, opcall E t o.op = some (g, args) → g.det = true) (h : opx0 E t o m k = some x) :
  ∃ v m', opx0 E t o m (fun v m' => some (v, m')) = some (v, m') ∧ k v m' = some x := by
 unfold opx0 at h ⊢
 split at h
 ·exact ⟨_, _, rfl, h⟩
 split at h
 ·exact ⟨_, _, rfl, h⟩
 split at h
 ·obtain ⟨hc, h⟩ := req_some h
  subst hc
  exact ⟨_, _, rfl, h⟩
 split at h
 ·exact ⟨_, _, rfl, h⟩
 split at h
 ·split at h
  ·rename_i hd
   exact ⟨_, _, by rw [if_pos hd], h⟩
  ·cases h
 split at h
 ·obtain ⟨hc, h⟩ := req_some h
  subst hc
  exact ⟨_, _, rfl, h⟩
 split at h
 ·obtain ⟨hc, h⟩ := req_some h
  subst hc
  exact ⟨_, _, rfl, h⟩
 split at h
 ·obtain ⟨hc, h⟩ := req_some h
  subst hc
  exact ⟨_, _, rfl, h⟩
 split at h
 ·obtain ⟨y, hy, h⟩ := Option.bind_eq_some_iff.1 h
  split at h
  ·rename_i v hv
   exact ⟨v, m, by simp only [hy, Option.bind_some, hv], h⟩
  ·cases h
 split at h
 ·split at h
  ·rename_i hd
   obtain ⟨y, hy, h⟩ := Option.bind_eq_some_iff.1 h
   split at h
   ·rename_i b hb
    exact ⟨.any, _, by rw [if_pos hd, hy, Option.bind_some, hb], h⟩
   ·cases h
  ·cases h
 split at h
 ·split at h
  ·rename_i hd
   obtain ⟨hcr, h⟩ := req_some h
   obtain ⟨y, hy, h⟩ := Option.bind_eq_some_iff.1 h
   split at h
   ·rename_i b hb
    exact ⟨.any, _, by rw [if_pos hd, hcr, hy, Option.bind_some, hb]; rfl, h⟩
   ·cases h
  ·cases h
 split at h
 ·rename_i g args hcall
  obtain ⟨f, hf⟩ : ∃ f, TrOk P f g := by
   unfold opcall at hcall
   split at hcall
   ·split at hcall
    ·split at hcall
     ·rename_i n _ _
      split at hcall
      ·obtain ⟨g', hg', he⟩ := Option.map_eq_some_iff.1 hcall
       cases he
       exact ⟨n, hE.call n _ hg'⟩
      ·cases hcall
     ·cases hcall
    ·cases hcall
   ·cases hcall
  obtain ⟨r, m', h1, h2, _⟩ := hf.2.2 (hl g args hcall) X args m k x h
  exact ⟨r, m', h1, h2⟩
 ·cases h
theorem opx0_nat {X : Type} {k : SV → Mem → Option X} (hc : opcall E t o.op = none) {v : SV} {m' : Mem} (h : opx0 E t o m (fun v m' => some (v, m')) = some (v, m')) : opx0 E t o m k = k v m' := by
 unfold opx0 at h ⊢
 split at h
 ·cases h; rfl
 split at h
 ·cases h; rfl
 split at h
 ·obtain ⟨hc, h⟩ := req_some h
  cases h; subst hc; rfl
 split at h
 ·cases h; rfl
 split at h
 ·split at h
  ·rename_i hd; cases h; rw [if_pos hd]
  ·cases h
 split at h
 ·obtain ⟨hc, h⟩ := req_some h
  cases h; subst hc; rfl
 split at h
 ·obtain ⟨hc, h⟩ := req_some h
  cases h; subst hc; rfl
 split at h
 ·obtain ⟨hc, h⟩ := req_some h
  cases h; subst hc; rfl
 split at h
 ·obtain ⟨y, hy, h⟩ := Option.bind_eq_some_iff.1 h
  split at h
  ·rename_i v hv
   cases h
   simp only [hy, Option.bind_some, hv]
  ·cases h
 split at h
 ·split at h
  ·rename_i hd
   obtain ⟨y, hy, h⟩ := Option.bind_eq_some_iff.1 h
   split at h
   ·rename_i b hb
    cases h
    rw [if_pos hd, hy, Option.bind_some, hb]
   ·cases h
  ·cases h
 split at h
 ·split at h
  ·rename_i hd
   obtain ⟨hcr, h⟩ := req_some h
   obtain ⟨y, hy, h⟩ := Option.bind_eq_some_iff.1 h
   split at h
   ·rename_i b hb
    cases h
    rw [if_pos hd, hcr, hy, Option.bind_some, hb]
    rfl
   ·cases h
  ·cases h
 split at h
 ·rename_i hcall
  rw [hc] at hcall
  cases hcall
 ·cases h
theorem call_plain {op : Op} {g : Con} {args : List SV} (h : opcall E t op = some (g, args)) (T : Nat → TI) (m : Mem) : pre t m op = none ∧ ∀ n m, post T t n op m = m := by
 unfold opcall at h
 split at h
 ·split at h
  ·rename_i c _ hc
   refine ⟨?_, fun n m => rfl⟩
   simp only [pre, hc]
  ·cases h
 ·cases h
theorem opx_law (hE : EnvOk P E) {X : Type} {k : SV → Mem → Option X} {x : X} (hg : growOp E o.op = true ∨ (∃ v m', runO E t o m = some (v, m')) ∨ True) (hl : ∀ g args, opcall E t o.op = some (g, args) → g.det = true) (h : opx E t o m k = some x) :
  ∃ v m', runO E t o m = some (v, m') ∧ k v m' = some x := by
 cases hc : opcall E t o.op with
 | some z =>
  obtain ⟨g, args⟩ := z
  obtain ⟨hp, hq⟩ := call_plain hc E.T m
  unfold runO
  unfold opx at h ⊢
  simp only [hp, hq] at h ⊢
  exact opx0_law hE hl h
 | none =>
  unfold runO
  unfold opx at h ⊢
  cases hp : pre t m o.op with
  | none =>
   simp only [hp] at h ⊢
   obtain ⟨v, m', h1, h2⟩ := opx0_law hE hl h
   exact ⟨v, _, opx0_nat hc h1, h2⟩
  | some z =>
   obtain ⟨c, s, m1⟩ := z
   simp only [hp] at h ⊢
   obtain ⟨hcc, h⟩ := req_some h
   rw [hcc]
   simp only [req]
   obtain ⟨cl, r, jb, i, hop, hcl, _⟩ := pre_some hp
   have hc' : opcall E (t.set s (.row (m1.length - 1))) o.op = none := by
    rw [hop]
    simp only [opcall, hcl]
   obtain ⟨v, m', h1, h2⟩ := opx0_law hE (fun g args h => by rw [hc'] at h; cases h) h
   exact ⟨v, _, opx0_nat hc' h1, h2⟩
theorem grow_run (hE : EnvOk P E) (hL : LawEnv E) (hg : growOp E o.op = true) {v : SV} {m' : Mem} (h : runO E t o m = some (v, m')) : ∃ os, m' = m ++ os := by
 have hpre : pre t m o.op = none := by
  cases hp : pre t m o.op with
  | none => rfl
  | some z =>
   obtain ⟨c, s, m1⟩ := z
   obtain ⟨cl, r, jb, i, hop, hcl, _⟩ := pre_some hp
   rw [hop] at hg
   simp [growOp, hcl] at hg
 have hpost : ∀ os, ∃ os', post E.T t m.length o.op (m ++ os) = m ++ os' := fun os => by
  cases hop : o.op <;> rw [hop] at hg <;> first | exact lay_app _ _ _ m os (Nat.le_refl _) | exact ⟨os, rfl⟩ | (simp [growOp] at hg; done)
 have hpost0 : ∃ os', post E.T t m.length o.op m = m ++ os' := by simpa using hpost []
 unfold runO opx at h
 simp only [hpre] at h
 unfold opx0 at h
 split at h
 ·cases h; exact hpost _
 split at h
 ·rename_i m1 hnl
  cases h
  suffices hx : ∃ os, m1 = m ++ os by
   obtain ⟨os, rfl⟩ := hx
   exact hpost os
  have nilc : ∀ {op : Op}, opnlN E.T m o.type op = some m1 → ∃ os, m1 = m ++ os := fun {op} hnl => by
   unfold opnlN at hnl
   split at hnl
   ·split at hnl
    ·split at hnl
     ·injection hnl with hnl; exact ⟨_, hnl.symm⟩
     ·cases hnl
    ·cases hnl
   ·split at hnl
    ·split at hnl
     ·injection hnl with hnl; exact ⟨_, hnl.symm⟩
     ·cases hnl
    ·cases hnl
   ·obtain ⟨f, _, rfl⟩ := Option.map_eq_some_iff.1 hnl
    exact ⟨_, rfl⟩
   ·cases hnl
  unfold opnl at hnl
  split at hnl
  ·rename_i hop
   rw [hop] at hg
   simp only [growOp] at hg
   split at hnl
   ·rename_i hnk
    rw [hnk] at hg
    cases hg
   ·cases hnl
  ·exact nilc hnl
 split at h
 ·obtain ⟨_, h⟩ := req_some h
  cases h; exact hpost0
 split at h
 ·cases h; exact hpost _
 split at h
 ·rename_i hst
  cases hop : o.op <;> rw [hop] at hst hg <;> simp [opst, growOp] at hst hg
 split at h
 ·rename_i hap
  cases hop : o.op <;> rw [hop] at hap hg <;> simp only [opap] at hap <;> try (cases hap; done)
  rename_i c
  split at hap
  ·rename_i hc _ _
   simp [growOp, hc] at hg
  ·cases hap
 split at h
 ·rename_i hap
  cases hop : o.op <;> rw [hop] at hap hg <;> simp only [opan] at hap <;> try (cases hap; done)
  rename_i c
  split at hap
  ·rename_i hc _ _
   simp [growOp, hc] at hg
  ·cases hap
 split at h
 ·rename_i hsl
  cases hop : o.op <;> rw [hop] at hsl hg <;> simp only [opsl] at hsl <;> try (cases hsl; done)
  rename_i ty x lo hi mx
  cases mx with
  | some _ => simp only [opsl] at hsl; cases hsl
  | none =>
   simp only [opsl] at hsl
   split at hsl
   ·rename_i hk hkd _
    simp [growOp, hkd] at hg
   ·cases hsl
 split at h
 ·obtain ⟨y, hy, h⟩ := Option.bind_eq_some_iff.1 h
  split at h
  ·cases h; exact hpost0
  ·cases h
 split at h
 ·rename_i hsr
  cases hop : o.op <;> rw [hop] at hsr hg <;> simp [opsr, growOp] at hsr hg
 split at h
 ·rename_i hsr
  cases hop : o.op <;> rw [hop] at hsr hg <;> simp [opsn, growOp] at hsr hg
 split at h
 ·rename_i g args hcall
  unfold opcall at hcall
  split at hcall
  ·rename_i c hop
   split at hcall
   ·rename_i f hc
    split at hcall
    ·rename_i n caps hf
     split at hcall
     ·obtain ⟨g', hg', he⟩ := Option.map_eq_some_iff.1 hcall
      cases he
      have hlaw : g.law = true := by
       rw [hop] at hg
       cases f <;> simp only [growOp, hc] at hg <;> try (cases hg; done)
       rename_i ff
       have : n = ff := by
        simp only [ev] at hf
        cases hf
        rfl
       subst this
       rw [hg'] at hg
       exact hg
      obtain ⟨r, m1, h1, h2, h3⟩ := (hE.call n g hg').2.2 (hL n g hg') _ _ m _ _ h
      cases h2
      obtain ⟨os, rfl⟩ := h3 hlaw
      exact hpost os
     ·cases hcall
    ·cases hcall
   ·cases hcall
  ·cases hcall
 ·cases h
theorem get_app {m os : Mem} {j : Nat} {ob : Obj} (h : m[j]? = some ob) : (m ++ os)[j]? = some ob := by
 rw [List.getElem?_append_left (List.getElem?_eq_some_iff.1 h).1]; exact h
theorem opq_app {T : Nat → TI} {op : Op} {os : Mem} {r : Bool × SV} (h : opq T t m op = some r) : opq T t (m ++ os) op = some r := by
 cases op <;> try (simp only [opq] at h ⊢; exact h)
 case unOp o ty x => cases o <;> simp only [opq] at h ⊢ <;> exact h
 case makeFunc fn first caps => cases fn <;> simp only [opq] at h ⊢ <;> exact h
 case slice ty x lo hi mx => cases mx <;> simp only [opq] at h ⊢ <;> exact h
 case load ty a =>
  simp only [opq] at h ⊢
  split at h
  ·next j off hx =>
   split at h
   ·next hj => rw [get_app hj]; exact h
   ·cases h
  ·next j n sz off hx =>
   split at h
   ·next hj => rw [get_app hj]; exact h
   ·cases h
  ·exact h
  ·cases h
 case fieldAddr ty x f =>
  simp only [opq] at h ⊢
  split at h
  ·split at h
   ·next hc =>
    rw [if_pos hc]
    split at h
    ·split at h
     ·next hj => rw [get_app hj]; exact h
     ·cases h
    ·split at h
     ·next hj => rw [get_app hj]; exact h
     ·cases h
    ·split at h
     ·next hj => rw [get_app hj]; exact h
     ·cases h
    ·cases h
   ·cases h
  ·cases h
 case convert a b x =>
  simp only [opq] at h ⊢
  split at h
  ·exact h
  ·split at h
   ·next hj => simp only [*, get_app hj]
   ·cases h
  ·cases h
 case nilCheck x =>
  simp only [opq] at h ⊢
  split at h
  ·split at h
   ·next hj => rw [get_app hj]; exact h
   ·cases h
  ·split at h
   ·next hj => rw [get_app hj]; exact h
   ·cases h
  ·cases h
 case indexAddr ty x i =>
  simp only [opq] at h ⊢
  split at h
  ·split at h
   ·next hj => rw [get_app hj]; exact h
   ·cases h
  ·split at h
   ·next hj => rw [get_app hj]; exact h
   ·cases h
  ·exact h
  ·split at h
   ·next hj => rw [get_app hj]; exact h
   ·cases h
  ·cases h
 case call c =>
  simp only [opq] at h ⊢
  split at h
  ·split at h
   ·exact h
   ·split at h
    ·next hj => rw [get_app hj]; exact h
    ·cases h
   ·split at h
    ·next hj => rw [get_app hj]; exact h
    ·cases h
   ·exact h
   ·cases h
  ·exact h
  ·cases h
theorem oprd_app {T : Nat → TI} {op : Op} {os : Mem} {r : RdL} (h : oprd T t m op = some r) : oprd T t (m ++ os) op = some r := by
 cases op <;> try (simp only [oprd] at h ⊢; exact h)
 case load ty a =>
  simp only [oprd] at h ⊢
  split at h
  ·split at h
   ·next hj => rw [get_app hj]; exact h
   ·next hj => rw [get_app hj]; exact h
   ·cases h
  ·split at h
   ·next hj => rw [get_app hj]; exact h
   ·cases h
  ·cases h
theorem opnlN_none {T : Nat → TI} {m m' : Mem} {oty : TypeId} {op : Op} (h : opnlN T m oty op = none) : opnlN T m' oty op = none := by
 unfold opnlN at h ⊢
 split at h
 ·split at h
  ·split at h
   ·cases h
   ·rename_i hc
    rw [if_neg hc]
  ·rfl
 ·split at h
  ·split at h
   ·cases h
   ·rename_i hc
    rw [if_neg hc]
  ·rfl
 ·rw [Option.map_eq_none_iff] at h ⊢; exact h
 ·rfl
theorem opnl_none {T : Nat → TI} {t t' : List SV} {m m' : Mem} {oty : TypeId} {op : Op} (hq : (opq T t m op).isSome = true ∨ (oprd T t m op).isSome = true) (h : (opnl T [] [] oty op).isNone = true) : opnl T t' m' oty op = none := by
 have h' : opnl T [] [] oty op = none := by simpa using h
 cases op
 case buildSlice ty n ps => rcases hq with hq | hq <;> cases hq
 case makeSlice ty x y => rcases hq with hq | hq <;> cases hq
 case move x => exact opnlN_none (m := []) (op := .move x) h'
 case assign x => exact opnlN_none (m := []) (op := .assign x) h'
 all_goals rfl
end
theorem lawE_ok {P : Program} {E : Env} (hE : EnvOk P E) : EnvOk P (lawE E) := ⟨hE.T, hE.B, fun f g h => by
 simp only [lawE] at h
 split at h
 ·rename_i g' hg'
  split at h
  ·injection h with h; subst h; exact hE.call f _ hg'
  ·cases h
 ·cases h⟩
theorem lawE_law (E : Env) : LawEnv (lawE E) := fun f g h => by
 simp only [lawE] at h
 split at h
 ·split at h
  ·rename_i hl; injection h with h; subst h; exact hl
  ·cases h
 ·cases h
theorem opcall_law {E : Env} (hL : LawEnv E) {t : List SV} {op : Op} {g : Con} {args : List SV} (h : opcall E t op = some (g, args)) : g.det = true := by
 unfold opcall at h
 split at h
 ·split at h
  ·split at h
   ·split at h
    ·obtain ⟨g', hg', he⟩ := Option.map_eq_some_iff.1 h
     cases he
     exact hL _ _ hg'
    ·cases h
   ·cases h
  ·cases h
 ·cases h
theorem set_same {t : List SV} {d : Nat} {b : Bool} (h : t.getD d .any = .b b) : t.set d (.b b) = t := by
 apply List.ext_getElem?
 intro k
 by_cases hk : d = k
 ·subst hk
  rw [List.getD_eq_getElem?_getD] at h
  cases hx : t[d]? with
  | none => rw [hx] at h; cases h
  | some y =>
   rw [hx] at h
   simp only [Option.getD_some] at h
   rw [List.getElem?_set_self (List.getElem?_eq_some_iff.1 hx).1, h]
 ·rw [List.getElem?_set_ne hk]
section
variable {P : Program} {E : Env} {ops : Array Oper}
inductive Ran (E : Env) (ops : Array Oper) (o : Oper) (t : List SV) (m : Mem) (v : SV) (m' : Mem) : Prop where
 | run (h : runO E t o m = some (v, m')) (hw : ∀ j want, o.guard = some (j, want) → ∃ d, (ops[j]?).bind (·.dst) = some d ∧ t.getD d .any = .b want)
 | skip (hv : v = .undef) (hm : m' = m) (j : Nat) (want : Bool) (hg : o.guard = some (j, want)) (d : Nat) (hd : (ops[j]?).bind (·.dst) = some d) (hs : t.getD d .any = .b (!want) ∨ t.getD d .any = .undef)
theorem step_ran (hE : EnvOk P E) (hL : LawEnv E) {X : Type} {i : Nat} {o : Oper} (ho : ops[i]? = some o) {s : St} {k : St → Option X} {x : X} (h : stepC E ops i s k = some x) :
  ∃ v m', Ran E ops o s.t s.m v m' ∧ k ⟨put s.t o.dst v, m'⟩ = some x := by
 unfold stepC at h
 simp only [ho] at h
 have law := fun t => opx_law (t := t) (m := s.m) (o := o) hE (k := fun v m => k ⟨put t o.dst v, m⟩) (x := x) (.inr (.inr trivial)) (fun g args hc => opcall_law hL hc)
 split at h
 ·rename_i hg
  obtain ⟨v, m', h1, h2⟩ := law s.t h
  exact ⟨v, m', .run h1 (fun j want he => by rw [hg] at he; cases he), h2⟩
 ·rename_i j want hg
  split at h
  ·cases h
  ·rename_i d hd
   split at h
   ·rename_i e he
    cases want
    ·simp only at h
     rcases br_some h with ⟨rfl, h⟩ | ⟨rfl, h⟩
     ·rw [set_same he] at h
      exact ⟨.undef, s.m, .skip rfl rfl j false hg d hd (.inl he), h⟩
     ·rw [set_same he] at h
      obtain ⟨v, m', h1, h2⟩ := law s.t h
      exact ⟨v, m', .run h1 (fun j' want' hg' => by rw [hg] at hg'; cases hg'; exact ⟨d, hd, he⟩), h2⟩
    ·simp only at h
     rcases br_some h with ⟨rfl, h⟩ | ⟨rfl, h⟩
     ·rw [set_same he] at h
      obtain ⟨v, m', h1, h2⟩ := law s.t h
      exact ⟨v, m', .run h1 (fun j' want' hg' => by rw [hg] at hg'; cases hg'; exact ⟨d, hd, he⟩), h2⟩
     ·rw [set_same he] at h
      exact ⟨.undef, s.m, .skip rfl rfl j true hg d hd (.inl he), h⟩
   ·rename_i he
    exact ⟨.undef, s.m, .skip rfl rfl j want hg d hd (.inr he), h⟩
   ·cases h
theorem getD_put {t : List SV} {dst : Option Nat} {v : SV} {d : Nat} (h : dst ≠ some d) : (put t dst v).getD d .any = t.getD d .any := by
 cases dst with
 | none => rfl
 | some e =>
  simp only [put, List.getD_eq_getElem?_getD]
  rw [List.getElem?_set_ne (by rintro rfl; exact h rfl)]
theorem put_comm' (t : List SV) {a b : Option Nat} (v u : SV) (h : ∀ d, a = some d → b ≠ some d) : put (put t a v) b u = put (put t b u) a v := by
 cases a with
 | none => rfl
 | some d =>
  cases b with
  | none => rfl
  | some e =>
   have hne : d ≠ e := fun he => h d rfl (he ▸ rfl)
   exact List.set_comm _ _ hne
def SameAt (ops : Array Oper) (o : Oper) (t t' : List SV) : Prop := ∀ d ∈ o.looksAt ops, t'.getD d .any = t.getD d .any
theorem SameAt.ev {o : Oper} {t t' : List SV} (h : SameAt ops o t t') : ∀ x ∈ o.op.operands, Ma.ev t' x = Ma.ev t x := by
 intro x hx
 cases x with
 | tmp d => exact h d (List.mem_append_left _ (List.mem_filterMap.2 ⟨.tmp d, by simpa using hx, rfl⟩))
 | _ => rfl
theorem SameAt.guard {o : Oper} {t t' : List SV} (h : SameAt ops o t t') {j d : Nat} {want : Bool} (hg : o.guard = some (j, want)) (hd : (ops[j]?).bind (·.dst) = some d) : t'.getD d .any = t.getD d .any :=
 h d (List.mem_append_right _ (by simp [hg, hd]))
theorem Ran.same {o : Oper} {t t' : List SV} {m m' : Mem} {v : SV} (h : Ran E ops o t m v m') (hs : SameAt ops o t t') : Ran E ops o t' m v m' := by
 cases h with
 | run hr hw =>
  refine .run ?_ (fun j want hg => ?_)
  ·unfold runO at hr ⊢
   rw [opx_congr o _ hs.ev]
   exact hr
  ·obtain ⟨d, hd, he⟩ := hw j want hg
   exact ⟨d, hd, by rw [hs.guard hg hd]; exact he⟩
 | skip hv hm j want hg d hd hss =>
  refine .skip hv hm j want hg d hd ?_
  rw [hs.guard hg hd]
  exact hss
def QRan (E : Env) (ops : Array Oper) (o : Oper) (t : List SV) (m : Mem) (v : SV) : Prop := ∀ os, Ran E ops o t (m ++ os) v (m ++ os)
theorem quiet_plain {T : Nat → TI} {t0 : List SV} {m0 : Mem} {op : Op} (h : (opq T t0 m0 op).isSome = true ∨ (oprd T t0 m0 op).isSome = true) (t : List SV) (m : Mem) : pre t m op = none ∧ ∀ n m, post T t n op m = m := by
 cases op <;> first | exact ⟨rfl, fun _ _ => rfl⟩ | (exfalso; rcases h with h | h <;> cases h; done) | skip
 rename_i c
 refine ⟨?_, fun _ _ => rfl⟩
 unfold pre
 simp only
 split
 ·rename_i hc _
  exfalso
  rcases h with h | h
  ·simp [opq, hc] at h
  ·cases h
 ·rfl
theorem opx_quiet {X : Type} {t0 : List SV} {m0 : Mem} {o : Oper} (h : (opq E.T t0 m0 o.op).isSome = true ∨ (oprd E.T t0 m0 o.op).isSome = true) (t : List SV) (m : Mem) (k : SV → Mem → Option X) : opx E t o m k = opx0 E t o m k := by
 obtain ⟨h1, h2⟩ := quiet_plain h t m
 unfold opx
 rw [h1]
 simp only [h2]
theorem qran_of {o : Oper} {t : List SV} {m m' : Mem} {v : SV} (h : Ran E ops o t m v m') (hn : (opnil E.T o.type o.op).isNone = true) (hn2 : (opnl E.T [] [] o.type o.op).isNone = true) (hq : (opq E.T t m o.op).isSome = true ∨ (oprd E.T t m o.op).isSome = true) : m' = m ∧ QRan E ops o t m v := by
 cases h with
 | skip hv hm j want hg d hd hs => exact ⟨hm, fun os => .skip hv rfl j want hg d hd hs⟩
 | run hr hw =>
  have hn' : opnil E.T o.type o.op = none := by simpa using hn
  have hnl : ∀ m', opnl E.T t m' o.type o.op = none := fun m' => opnl_none hq hn2
  cases hqv : opq E.T t m o.op with
  | some cv =>
   obtain ⟨c, u⟩ := cv
   have hr' := hr
   unfold runO at hr'
   rw [opx_quiet hq] at hr'
   unfold opx0 at hr'
   simp only [hn', hnl, hqv] at hr'
   obtain ⟨hc, hr'⟩ := req_some hr'
   cases hr'
   subst hc
   refine ⟨rfl, fun os => .run ?_ hw⟩
   unfold runO
   rw [opx_quiet hq]
   unfold opx0
   simp only [hn', hnl, opq_app hqv]
   rfl
  | none =>
   rcases hq with hq | hq
   ·rw [hqv] at hq; cases hq
   ·obtain ⟨r, hrd⟩ := Option.isSome_iff_exists.1 hq
    obtain ⟨ty, ad, hop⟩ : ∃ ty ad, o.op = .load ty ad := by
     cases hop : o.op <;> rw [hop] at hrd <;> simp only [oprd] at hrd <;> first | exact ⟨_, _, rfl⟩ | cases hrd
    have hq0 : ∀ os, opq E.T t (m ++ os) o.op = none := by
     intro os
     rw [hop] at hrd hqv ⊢
     simp only [oprd] at hrd
     split at hrd
     ·next heq =>
      split at hrd
      ·next hj => simp only [opq, heq, get_app hj]
      ·next hj => simp only [opq, heq, get_app hj]
      ·cases hrd
     ·next heq => simp only [opq, heq]
     ·cases hrd
    have hrest : ∀ os, opa E.T t o.op = none ∧ opst E.T t (m ++ os) o.op = none ∧ opap E.T t (m ++ os) o.op = none ∧ opan E.T t (m ++ os) o.op = none ∧ opsl E.T t (m ++ os) o.op = none := by
     intro os
     rw [hop]
     exact ⟨rfl, rfl, rfl, rfl, rfl⟩
    have key : ∀ os, runO E t o (m ++ os) = ((geti r.l r.i).bind fun a => match r.val a with | some v => some (v, m ++ os) | none => none) := by
     intro os
     obtain ⟨h1, h2, h3, h3n, h4⟩ := hrest os
     unfold runO
     rw [opx_quiet (m0 := m) (t0 := t) (.inr hq)]
     unfold opx0
     simp only [hn', hnl, hq0 os, h1, h2, h3, h3n, h4, oprd_app hrd]
     rfl
    have hr0 := hr
    have k0 := key []
    rw [List.append_nil] at k0
    rw [k0] at hr0
    obtain ⟨y, hy, hr0⟩ := Option.bind_eq_some_iff.1 hr0
    split at hr0
    ·rename_i u hu
     cases hr0
     refine ⟨rfl, fun os => .run ?_ hw⟩
     rw [key os, hy, Option.bind_some, hu]
    ·cases hr0
theorem opq_at {T : Nat → TI} {t : List SV} {m m' : Mem} {op : Op} {r : Bool × SV} (hR : ∀ q ∈ refsAt t op, m'[q]? = m[q]?) (h : opq T t m op = some r) : opq T t m' op = some r := by
 have get : ∀ {x : Operand} {j : Nat}, x ∈ op.operands.toList → j ∈ (ev t x).refs → m'[j]? = m[j]? := fun {x j} hx hj => hR j (by
  unfold refsAt
  have : ∀ (l : List Operand), x ∈ l → j ∈ refsL (l.map (ev t)) := by
   intro l hl
   induction l with
   | nil => cases hl
   | cons y r ih =>
    simp only [List.map_cons, refsL, List.mem_append]
    rcases List.mem_cons.1 hl with rfl | hl
    ·exact .inl hj
    ·exact .inr (ih hl)
  exact this _ hx)
 cases op <;> try (simp only [opq] at h ⊢; exact h)
 case unOp o ty x => cases o <;> simp only [opq] at h ⊢ <;> exact h
 case makeFunc fn first caps => cases fn <;> simp only [opq] at h ⊢ <;> exact h
 case slice ty x lo hi mx => cases mx <;> simp only [opq] at h ⊢ <;> exact h
 case load ty a =>
  simp only [opq] at h ⊢
  split at h
  ·next j off hx => rw [get (x := a) (by simp [Op.operands]) (by rw [hx]; simp [SV.refs])]; exact h
  ·next j n sz off hx => rw [get (x := a) (by simp [Op.operands]) (by rw [hx]; simp [SV.refs])]; exact h
  ·exact h
  ·cases h
 case fieldAddr ty x f =>
  simp only [opq] at h ⊢
  split at h
  ·split at h
   ·next hc =>
    rw [if_pos hc]
    split at h
    ·next j off hx => rw [get (x := x) (by simp [Op.operands]) (by rw [hx]; simp [SV.refs])]; exact h
    ·next j n sz off hx => rw [get (x := x) (by simp [Op.operands]) (by rw [hx]; simp [SV.refs])]; exact h
    ·next j n e sz off hx => rw [get (x := x) (by simp [Op.operands]) (by rw [hx]; simp [SV.refs])]; exact h
    ·cases h
   ·cases h
  ·cases h
 case convert a b x =>
  simp only [opq] at h ⊢
  split at h
  ·exact h
  ·next hx =>
   rw [get (x := x) (by simp [Op.operands]) (by rw [hx]; simp [SV.refs])]
   exact h
  ·cases h
 case nilCheck x =>
  simp only [opq] at h ⊢
  split at h
  ·next j off hx => rw [get (x := x) (by simp [Op.operands]) (by rw [hx]; simp [SV.refs])]; exact h
  ·next j n sz off hx => rw [get (x := x) (by simp [Op.operands]) (by rw [hx]; simp [SV.refs])]; exact h
  ·cases h
 case indexAddr ty x i =>
  simp only [opq] at h ⊢
  split at h
  ·next hx _ => rw [get (x := x) (by simp [Op.operands]) (by rw [hx]; simp [SV.refs])]; exact h
  ·next hx _ => rw [get (x := x) (by simp [Op.operands]) (by rw [hx]; simp [SV.refs])]; exact h
  ·exact h
  ·next hx _ => rw [get (x := x) (by simp [Op.operands]) (by rw [hx]; simp [SV.refs])]; exact h
  ·cases h
 case call c =>
  simp only [opq] at h ⊢
  split at h
  ·next x at_ hc hargs hat =>
   have hmem : x ∈ (Op.call c).operands.toList := by simp [Op.operands, Call.operands]; exact .inr (by rw [← Array.mem_toList_iff, hargs]; simp)
   split at h
   ·exact h
   ·next hx => rw [get hmem (by rw [hx]; simp [SV.refs])]; exact h
   ·next hx => rw [get hmem (by rw [hx]; simp [SV.refs])]; exact h
   ·exact h
   ·cases h
  ·exact h
  ·cases h
theorem oprd_at {T : Nat → TI} {t : List SV} {m m' : Mem} {op : Op} {r : RdL} (hR : ∀ q ∈ refsAt t op, m'[q]? = m[q]?) (h : oprd T t m op = some r) : oprd T t m' op = some r := by
 cases op <;> try (simp only [oprd] at h ⊢; exact h)
 case load ty a =>
  simp only [oprd] at h ⊢
  split at h
  ·next hx => rw [hR _ (by simp [refsAt, Op.operands, hx, refsL, SV.refs])]; exact h
  ·next hx => rw [hR _ (by simp [refsAt, Op.operands, hx, refsL, SV.refs])]; exact h
  ·cases h
theorem lay_keep (j off : Nat) : ∀ (l : List (Nat × (K ⊕ (K × K × TypeId)) × TypeId)) (m : Mem) (q : Nat), q ≠ j → q < m.length → (layB j off l m)[q]? = m[q]?
 | [], _, _, _, _ => rfl
 | (o, kd, e) :: r, m, q, hq, hl => by
  unfold layB
  split
  ·split
   ·cases kd with
    | inl k => simp only; rw [lay_keep j off r _ q hq (by simp; omega), List.getElem?_set_ne (Ne.symm hq), List.getElem?_append_left hl]
    | inr x =>
     obtain ⟨hk, ik, ity⟩ := x
     simp only
     rw [lay_keep j off r _ q hq (by simp; omega), List.getElem?_set_ne (Ne.symm hq), List.getElem?_append_left hl]
   ·exact lay_keep j off r m q hq hl
  ·exact lay_keep j off r m q hq hl
theorem store_keep {E : Env} {t : List SV} {m : Mem} {o : Oper} {ty : TypeId} {a x : Operand} {j off : Nat} (hop : o.op = .store ty a x) (ha : ev t a = .ptr j off) {v : SV} {m' : Mem} (h : runO E t o m = some (v, m')) {q : Nat} (hq : q ≠ j) (hl : q < m.length) : m'[q]? = m[q]? := by
 unfold runO opx at h
 simp only [hop, pre] at h
 unfold opx0 at h
 simp only [hop, opnil, opnl, opnlN, opq, opa] at h
 split at h
 ·rename_i m1 hst
  split at h
  ·simp only [Option.some.injEq, Prod.mk.injEq] at h
   obtain ⟨_, rfl⟩ := h
   simp only [opst, ha] at hst
   split at hst
   ·split at hst
    ·injection hst with hst
     subst hst
     simp only [post, ha]
     rw [lay_keep _ _ _ _ _ hq (by simpa using hl), List.getElem?_set_ne (Ne.symm hq)]
    ·cases hst
   ·cases hst
  ·cases h
 ·simp [opap, opan, opsl, oprd, opsr, opsn, ha, opcall] at h
theorem store_any {E : Env} {t : List SV} {m : Mem} {o : Oper} {ty : TypeId} {a x : Operand} (hop : o.op = .store ty a x) (ha : ev t a = .any) {v : SV} {m' : Mem} (h : runO E t o m = some (v, m')) : False := by
 unfold runO opx at h
 simp only [hop, pre] at h
 unfold opx0 at h
 simp [hop, opnil, opnl, opnlN, opq, opa, opst, opap, opan, opsl, oprd, opsr, opsn, ha, opcall] at h
theorem alloc_val {E : Env} {t : List SV} {m : Mem} {o : Oper} (hop : allocB E.T o.op = true) {v : SV} {m' : Mem} (h : runO E t o m = some (v, m')) : v = .ptr m.length 0 := by
 unfold allocB at hop
 split at hop
 ·rename_i ty ho
  have harr : (E.T ty).arr = none := by simpa using hop
  unfold runO opx at h
  simp only [ho, pre] at h
  unfold opx0 at h
  simp only [ho, opnil, opnl, opnlN, opq, opa, harr] at h
  split at h
  ·rename_i ob r hr
   split at hr
   ·simp only [Option.some.injEq, Prod.mk.injEq] at hr
    obtain ⟨_, rfl⟩ := hr
    simp only [Option.some.injEq, Prod.mk.injEq] at h
    exact h.1.symm
   ·cases hr
  ·simp [opst, opap, opan, opsl, oprd, opsr, opsn, opcall] at h
 ·cases hop
theorem goneL_len {own : Bool} : ∀ {js : List Nat} {m : Mem}, (goneL own js m).length = m.length := by
 intro js
 cases own
 ·simp only [goneL, Bool.false_eq_true, if_false]
  induction js with
  | nil => intro m; rfl
  | cons j r ih => intro m; rw [shutL, ih, List.length_set]
 ·simp only [goneL, if_true]
  induction js with
  | nil => intro m; rfl
  | cons j r ih => intro m; rw [killL, ih, List.length_set]
theorem killO_len (m : Mem) (j : Option Nat) : (killO m j).length = m.length := by cases j <;> simp [killO]
theorem still_row {m : Mem} {q : Nat} {o1 : Obj} {c : C} {ty : TypeId} (hq : m[q]? = some o1) (hs : stillO o1 = true) (h : m[q]? = some (.row c ty true)) : False := by
 rw [hq] at h
 injection h with h
 subst h
 cases hs
theorem still_bag {m : Mem} {q : Nat} {o1 : Obj} {k : K} {ls : List (List k.T)} {ty : TypeId} {own fr : Bool} (hq : m[q]? = some o1) (hs : stillO o1 = true) (h : m[q]? = some (.bag k ls ty own fr)) : False := by
 rw [hq] at h
 injection h with h
 subst h
 cases hs
theorem killO_blk {m : Mem} {j : Option Nat} {q : Nat} {o1 : Obj} (hq : m[q]? = some o1) (hj : ∀ k, j = some k → k ≠ q) : (killO m j)[q]? = m[q]? := by
 cases j with
 | none => rfl
 | some k => simp only [killO]; rw [List.getElem?_set_ne (hj k rfl)]
theorem goneL_blk {own : Bool} : ∀ {js : List Nat} {m : Mem} {q : Nat}, q ∉ js → (goneL own js m)[q]? = m[q]? := by
 intro js
 cases own
 ·simp only [goneL, Bool.false_eq_true, if_false]
  induction js with
  | nil => intro m q _; rfl
  | cons j r ih => intro m q h; simp only [List.mem_cons, not_or] at h; rw [shutL, ih h.2, List.getElem?_set_ne (Ne.symm h.1)]
 ·simp only [goneL, if_true]
  induction js with
  | nil => intro m q _; rfl
  | cons j r ih => intro m q h; simp only [List.mem_cons, not_or] at h; rw [killL, ih h.2, List.getElem?_set_ne (Ne.symm h.1)]
theorem slice_keep {E : Env} {t : List SV} {m : Mem} {o : Oper} {ty : TypeId} {x : Operand} {lo hi mx : Option Operand} (hop : o.op = .slice ty x lo hi mx) {v : SV} {m' : Mem} (h : runO E t o m = some (v, m')) {q : Nat} {o1 : Obj} (hq : m[q]? = some o1) (hs : stillO o1 = true) : m'[q]? = m[q]? := by
 have hql : q < m.length := (List.getElem?_eq_some_iff.1 hq).1
 unfold runO opx at h
 simp only [hop, pre, post] at h
 unfold opx0 at h
 simp only [hop, opnil, opnl, opnlN] at h
 split at h
 ·obtain ⟨_, h⟩ := req_some h
  simp only [Option.some.injEq, Prod.mk.injEq] at h
  rw [h.2]
 ·simp only [opa, opst, opap, opan] at h
  split at h
  ·rename_i e m1 hsl
   obtain ⟨_, h⟩ := req_some h
   simp only [Option.some.injEq, Prod.mk.injEq] at h
   obtain ⟨_, rfl⟩ := h
   cases mx with
   | some _ => simp only [opsl] at hsl; cases hsl
   | none =>
    simp only [opsl] at hsl
    split at hsl
    ·split at hsl
     ·rename_i hj
      split at hsl
      ·split at hsl
       ·simp only [Option.some.injEq, Prod.mk.injEq] at hsl
        obtain ⟨_, rfl⟩ := hsl
        rw [List.getElem?_append_left (by split <;> simp [killO] <;> exact hql)]
        refine killO_blk hq fun k hk e => ?_
        split at hk
        ·rename_i how
         cases hk
         subst e
         subst how
         exact still_row hq hs hj
        ·cases hk
       ·cases hsl
      ·cases hsl
     ·cases hsl
    ·cases hsl
  ·simp [oprd, opsr, opsn, opcall] at h
theorem append_keep0 {E : Env} {t : List SV} {m : Mem} {o : Oper} {c : Call} (hop : o.op = .call c) (hc : c.callee = .builtin .append) {v : SV} {m' : Mem} (h : opx0 E t o m (fun v m' => some (v, m')) = some (v, m')) {q : Nat} {o1 : Obj} (hq : m[q]? = some o1) (hs : stillO o1 = true) : m'[q]? = m[q]? := by
 have hql : q < m.length := (List.getElem?_eq_some_iff.1 hq).1
 unfold opx0 at h
 simp only [hop, opnil, opnl, opnlN, opq, hc, opa, opst] at h
 split at h
 ·rename_i e m1 hap
  obtain ⟨_, h⟩ := req_some h
  simp only [Option.some.injEq, Prod.mk.injEq] at h
  obtain ⟨_, rfl⟩ := h
  simp only [opap, hc] at hap
  split at hap
  ·split at hap
   ·split at hap
    ·rename_i j c1 j' c2 hown _
     split at hap
     ·cases hap
     ·split at hap
      ·simp only [Option.some.injEq, Prod.mk.injEq] at hap
       obtain ⟨_, rfl⟩ := hap
       rw [List.getElem?_append_left (by rw [killO_len]; exact hql)]
       refine killO_blk hq fun k hk e => ?_
       subst hk
       unfold ownRow at hown
       split at hown
       ·simp at hown
       ·split at hown
        ·rename_i hj
         split at hown
         ·simp only [Option.some.injEq, Prod.mk.injEq] at hown
          rw [hown.1, e] at hj
          exact still_row hq hs hj
         ·cases hown
        ·cases hown
       ·cases hown
      ·cases hap
    ·cases hap
   ·cases hap
  ·cases hap
 ·split at h
  ·rename_i e m1 han
   obtain ⟨_, h⟩ := req_some h
   simp only [Option.some.injEq, Prod.mk.injEq] at h
   obtain ⟨_, rfl⟩ := h
   simp only [opan, hc] at han
   split at han
   ·split at han
    ·split at han
     ·split at han
      ·rename_i bt1 a1 b1 bt2 b2 _ hna hnb
       split at han
       ·split at han
        ·simp only [Option.some.injEq, Prod.mk.injEq] at han
         obtain ⟨_, rfl⟩ := han
         obtain ⟨_, _, p1, p2⟩ := nstAt_ok hna
         obtain ⟨_, _, p3, p4⟩ := nstAt_ok hnb
         have hne : q ∉ [a1.jb, b2.jb] := by
          simp only [List.mem_cons, List.not_mem_nil, or_false, not_or]
          exact ⟨fun e => still_bag hq hs (e ▸ p2), fun e => still_bag hq hs (e ▸ p4)⟩
         rw [List.getElem?_append_left (by rw [killO_len, List.length_append, goneL_len]; omega)]
         simp only [killO]
         rw [List.getElem?_set_ne (fun e => still_row hq hs (e ▸ p1)), List.getElem?_append_left (by rw [goneL_len]; exact hql), goneL_blk hne]
        ·cases han
       ·cases han
      ·cases han
     ·cases han
    ·cases han
   ·cases han
  ·simp [opsl, oprd, opsr, opsn, opcall, hc] at h
theorem append_keep {E : Env} {t : List SV} {m : Mem} {o : Oper} {c : Call} (hop : o.op = .call c) (hc : c.callee = .builtin .append) {v : SV} {m' : Mem} (h : runO E t o m = some (v, m')) {q : Nat} {o1 : Obj} (hq : m[q]? = some o1) (hs : stillO o1 = true) : m'[q]? = m[q]? := by
 unfold runO opx at h
 simp only [hop, post] at h
 split at h
 ·rename_i c1 s m1 hp
  obtain ⟨_, h⟩ := req_some h
  have hm1 : m1[q]? = m[q]? := by
   have hql : q < m.length := (List.getElem?_eq_some_iff.1 hq).1
   unfold pre at hp
   simp only [hc] at hp
   split at hp
   ·split at hp
    ·obtain ⟨m2, hm2, he⟩ := Option.map_eq_some_iff.1 hp
     simp only [Prod.mk.injEq] at he
     obtain ⟨_, _, rfl⟩ := he
     unfold takeM at hm2
     split at hm2
     ·rename_i hj
      injection hm2 with hm2
      subst hm2
      rw [List.getElem?_append_left (by simpa using hql), List.getElem?_set_ne (fun e => still_bag hq hs (e ▸ hj))]
     ·cases hm2
    ·cases hp
   ·cases hp
  rw [append_keep0 hop hc h (by rw [hm1]; exact hq) hs, hm1]
 ·exact append_keep0 hop hc h hq hs
theorem row_keep {E : Env} {t : List SV} {m : Mem} {o : Oper} (hop : rowOp o.op = true) {v : SV} {m' : Mem} (h : runO E t o m = some (v, m')) {q : Nat} {o1 : Obj} (hq : m[q]? = some o1) (hs : stillO o1 = true) : m'[q]? = m[q]? := by
 cases ho : o.op <;> rw [ho] at hop <;> simp only [rowOp] at hop <;> first | (cases hop; done) | exact slice_keep ho h hq hs | skip
 split at hop
 ·rename_i hc; exact append_keep ho hc h hq hs
 ·cases hop
inductive Waits (ops : Array Oper) : Nat → Nat → Prop where
 | here {j i : Nat} {o : Oper} {e : Edge} (ho : ops[j]? = some o) (he : e ∈ o.after) (hb : Region.binds .any e = true) (hi : e.on = i) : Waits ops j i
 | there {j i : Nat} {o : Oper} {e : Edge} (ho : ops[j]? = some o) (he : e ∈ o.after) (hb : Region.binds .any e = true) (hi : Waits ops e.on i) : Waits ops j i
def Closed (ops : Array Oper) (listed : Array Bool) : Prop := ∀ j o, ops[j]? = some o → listed.getD j false = true → ∀ e ∈ o.after, Region.binds .any e = true → listed.getD e.on false = true
theorem waits_listed {listed : Array Bool} (hc : Closed ops listed) {j i : Nat} (h : Waits ops j i) : (∀ o, ops[j]? = some o → ∀ e ∈ o.after, Region.binds .any e = true → listed.getD e.on false = true) → listed.getD i false = true := by
 induction h with
 | here ho he hb hi => intro hl; subst hi; exact hl _ ho _ he hb
 | there ho he hb _ ih => intro hl; exact ih fun o' ho' => hc _ o' ho' (hl _ ho _ he hb)
theorem mask_ok (i : Nat) (acc : List Nat) : ∀ (es : List Edge) (s : Nat), (es.foldl (fun s e => if Region.binds .any e then s ||| 2 ^ e.on ||| acc.getD e.on 0 else s) s).testBit i = true →
  s.testBit i = true ∨ ∃ e ∈ es, Region.binds .any e = true ∧ (e.on = i ∨ (acc.getD e.on 0).testBit i = true)
 | [], s, h => .inl h
 | e :: r, s, h => by
  simp only [List.foldl_cons] at h
  rcases mask_ok i acc r _ h with h | ⟨e', he', h⟩
  ·split at h
   ·rename_i hb
    simp only [Nat.testBit_or, Bool.or_eq_true, Nat.testBit_two_pow, decide_eq_true_eq] at h
    rcases h with (h | h) | h
    ·exact .inl h
    ·exact .inr ⟨e, by simp, hb, .inl h⟩
    ·exact .inr ⟨e, by simp, hb, .inr h⟩
   ·exact .inl h
  ·exact .inr ⟨e', by simp [he'], h⟩
theorem waitL_ok (i : Nat) : ∀ (l : List Oper) (acc : List Nat), (∀ k, l[k]? = ops[acc.length + k]?) → (∀ j, (acc.getD j 0).testBit i = true → Waits ops j i) → ∀ j, ((waitL l acc).getD j 0).testBit i = true → Waits ops j i
 | [], acc, _, h, j, hj => h j hj
 | o :: r, acc, hl, h, j, hj => by
  simp only [waitL] at hj
  refine waitL_ok i r (acc ++ [waitMask acc o]) (fun k => ?_) (fun j hj => ?_) j hj
  ·have := hl (k + 1)
   simpa [Nat.add_assoc, Nat.add_comm 1 k] using this
  ·by_cases hjl : j < acc.length
   ·rw [List.getD_eq_getElem?_getD, List.getElem?_append_left hjl, ← List.getD_eq_getElem?_getD] at hj
    exact h j hj
   ·by_cases hje : j = acc.length
    ·subst hje
     have e1 : (acc ++ [waitMask acc o]).getD acc.length 0 = waitMask acc o := by simp
     rw [e1] at hj
     have ho : ops[acc.length]? = some o := by simpa using (hl 0).symm
     unfold waitMask at hj
     rcases mask_ok i acc _ 0 hj with hj | ⟨e, he, hb, hj⟩
     ·simp at hj
     ·rcases hj with hj | hj
      ·exact .here ho (by simpa using he) hb hj
      ·exact .there ho (by simpa using he) hb (h _ hj)
    ·rw [List.getD_eq_getElem?_getD, List.getElem?_eq_none (by simp; omega)] at hj
     simp at hj
theorem wait_bit {j i : Nat} (h : ((waitL ops.toList []).getD j 0).testBit i = true) : Waits ops j i :=
 waitL_ok i ops.toList [] (fun k => by simp) (fun j hj => by simp at hj) j h
def AnyS (E : Env) (ops : Array Oper) {X : Type} (n : St → Option X) (x : X) : Nat → Array Bool → St → Prop
 | 0, listed, s => Region.ready .any ops listed = [] ∧ n s = some x
 | f + 1, listed, s => (Region.ready .any ops listed = [] → n s = some x) ∧ ∀ i ∈ Region.ready .any ops listed, ∃ o v m', ops[i]? = some o ∧ Ran E ops o s.t s.m v m' ∧ AnyS E ops n x f (listed.setIfInBounds i true) ⟨put s.t o.dst v, m'⟩
theorem getD_tf {listed : Array Bool} {i : Nat} (h : listed.getD i true = false) : listed.getD i false = false := by
 by_cases hi : i < listed.size
 ·simp [hi] at h ⊢; exact h
 ·simp [hi] at h
theorem Closed.step {listed : Array Bool} (hc : Closed ops listed) {i : Nat} (hi : i ∈ Region.ready .any ops listed) : Closed ops (listed.setIfInBounds i true) := by
 intro j o ho hj e he hb
 by_cases hji : j = i
 ·subst hji
  obtain ⟨_, o', ho', hall⟩ := mem_ready.1 hi
  rw [ho] at ho'
  cases ho'
  exact getD_set_true (hall e he hb)
 ·rw [getD_set_ne false (Ne.symm hji)] at hj
  exact getD_set_true (hc j o ho hj e he hb)
theorem opq_reg {T : Nat → TI} {t : List SV} {m m' : Mem} {op : Op} (h : regOp op = true) : opq T t m op = opq T t m' op := by
 cases op <;> first | rfl | (simp [regOp] at h; done) | skip
 ·rename_i o _ _
  cases o <;> rfl
 ·rename_i f _ _
  cases f <;> rfl
theorem regran_of {o : Oper} {t : List SV} {m m' : Mem} {v : SV} (h : Ran E ops o t m v m') (hn : (opnil E.T o.type o.op).isNone = true) (hn2 : (opnl E.T [] [] o.type o.op).isNone = true) (hreg : regOp o.op = true) (hq : (opq E.T t m o.op).isSome = true) : m' = m ∧ ∀ mm, Ran E ops o t mm v mm := by
 cases h with
 | skip hv hm j want hg d hd hs => exact ⟨hm, fun mm => .skip hv rfl j want hg d hd hs⟩
 | run hr hw =>
  have hn' : opnil E.T o.type o.op = none := by simpa using hn
  have hnl : ∀ m', opnl E.T t m' o.type o.op = none := fun m' => opnl_none (.inl hq) hn2
  obtain ⟨⟨c, u⟩, hqv⟩ := Option.isSome_iff_exists.1 hq
  have hr' := hr
  unfold runO at hr'
  rw [opx_quiet (.inl hq)] at hr'
  unfold opx0 at hr'
  simp only [hn', hnl, hqv] at hr'
  obtain ⟨hc, hr'⟩ := req_some hr'
  cases hr'
  subst hc
  refine ⟨rfl, fun mm => .run ?_ hw⟩
  unfold runO
  rw [opx_quiet (.inl hq)]
  unfold opx0
  simp only [hn', hnl, opq_reg (m' := mm) hreg ▸ hqv]
  rfl
theorem anyS_first (hE : EnvOk P E) {X : Type} {n : St → Option X} {x : X} {i : Nat} {oi : Oper} (hi : ops[i]? = some oi) {v : SV} (A : List SV → Prop) (I : Mem → Prop) :
  ∀ (fuel : Nat) (listed : Array Bool) (s : St), Closed ops listed → A s.t → I s.m →
   (∀ j oj, ops[j]? = some oj → j ≠ i → listed.getD j true = false → Waits ops j i ∨ ((∀ (t : List SV) (mm : Mem) (u : SV) (m' : Mem), A t → I mm → Ran E ops oj t mm u m' → A (put t oj.dst u) ∧ I m') ∧ oi.apart ops oj = true)) →
   i ∈ Region.ready .any ops listed → (∀ mm, I mm → Ran E ops oi s.t mm v mm) →
   AnyS E ops n x fuel (listed.setIfInBounds i true) ⟨put s.t oi.dst v, s.m⟩ → AnyS E ops n x (fuel + 1) listed s := by
 intro fuel
 induction fuel with
 | zero =>
  intro listed s hc hA hI _ hr hq H
  refine ⟨fun h => (by rw [h] at hr; cases hr), fun j hj => ?_⟩
  by_cases hji : j = i
  ·subst hji
   exact ⟨oi, v, s.m, hi, hq s.m hI, H⟩
  ·have := ready_mono hj hji
   rw [H.1] at this
   cases this
 | succ fuel ih =>
  intro listed s hc hA hI hfree hr hq H
  refine ⟨fun h => (by rw [h] at hr; cases hr), fun j hj => ?_⟩
  by_cases hji : j = i
  ·subst hji
   exact ⟨oi, v, s.m, hi, hq s.m hI, H⟩
  ·obtain ⟨oj, u, m', hoj, hran, hrest⟩ := H.2 j (ready_mono hj hji)
   obtain ⟨hjun, oj', hoj', hall⟩ := mem_ready.1 hj
   rw [hoj] at hoj'
   cases hoj'
   have hiun := getD_tf (mem_ready.1 hr).1
   have hnw : ¬ Waits ops j i := fun hw => by
    have := waits_listed hc hw (fun o ho => by rw [hoj] at ho; cases ho; exact hall)
    rw [hiun] at this
    cases this
   obtain ⟨hgrow, hap⟩ := (hfree j oj hoj hji hjun).resolve_left hnw
   obtain ⟨a1, a2, a3⟩ := Oper.apart_spec hap
   -- j, ahead of i
   have hsame : SameAt ops oj (put s.t oi.dst v) s.t := fun d hd => (getD_put (by intro he; exact a1 d he hd)).symm
   have hran' := hran.same hsame
   refine ⟨oj, u, m', hoj, hran', ?_⟩
   have hsame2 : SameAt ops oi s.t (put s.t oj.dst u) := fun d hd => getD_put (by intro he; exact a3 d he hd)
   obtain ⟨hA', hI'⟩ := hgrow _ _ _ _ hA hI hran'
   refine ih (listed.setIfInBounds j true) ⟨put s.t oj.dst u, m'⟩ (hc.step hj) hA' hI' (fun k ok hk hki hun => ?_) (ready_mono hr (Ne.symm hji)) (fun mm hmm => ?_) ?_
   ·refine hfree k ok hk hki ?_
    by_cases hjk : j = k
    ·subst hjk; exact hjun
    ·rw [getD_set_ne true hjk] at hun; exact hun
   ·exact (hq mm hmm).same hsame2
   ·have e : put (put s.t oj.dst u) oi.dst v = put (put s.t oi.dst v) oj.dst u := (put_comm' s.t v u a2).symm
    show AnyS E ops n x fuel _ ⟨put (put s.t oj.dst u) oi.dst v, m'⟩
    rw [e, Array.setIfInBounds_comm _ _ hji]
    exact hrest
theorem allB_some {X : Type} {f : Nat → Option X} {x : X} : ∀ {l : List Nat}, allB l f = some x → ∀ i ∈ l, f i = some x
 | [], h, _, _ => by cases h
 | [i], h, j, hj => by simp only [List.mem_singleton] at hj; subst hj; exact h
 | i :: k :: r, h, j, hj => by
  simp only [allB, both] at h
  split at h
  ·rename_i he
   rcases List.mem_cons.1 hj with rfl | hj
   ·exact h
   ·rw [he] at h; exact allB_some h j hj
  ·cases h
theorem anyS_at (hE : EnvOk P E) (hL : LawEnv E) {X : Type} {n : St → Option X} {x : X} {f : Nat} {listed : Array Bool} {s : St} (hc : Closed ops listed) {j : Nat} {o : Oper} (hjr : j ∈ Region.ready .any ops listed) (ho : ops[j]? = some o) (hstat : statAt E ops listed s j = true)
  (hquiet : ((opnil E.T o.type o.op).isNone = true ∧ (opnl E.T [] [] o.type o.op).isNone = true) ∧ ((opq E.T s.t s.m o.op).isSome = true ∨ ((!regOp o.op) = true ∧ (oprd E.T s.t s.m o.op).isSome = true))) {v : SV} {m' : Mem} (hran : Ran E ops o s.t s.m v m')
  (hS : AnyS E ops n x f (listed.setIfInBounds j true) ⟨put s.t o.dst v, s.m⟩) : AnyS E ops n x (f + 1) listed s := by
 have hq0 := hquiet.2.imp id fun h => h.2
 unfold statAt at hstat
 simp only [ho, Bool.and_eq_true, List.all_eq_true, List.mem_range, decide_eq_true_eq] at hstat
 obtain ⟨hlt, hall⟩ := hstat
 obtain ⟨rfl, _⟩ := qran_of hran hquiet.1.1 hquiet.1.2 hq0
 -- the slots of the addresses of what is stored
 let D : Nat → Prop := fun d => ∃ (k : Nat) (ok : Oper) (ty : TypeId) (y : Operand), ops[k]? = some ok ∧ listed.getD k true = false ∧ ok.op = .store ty (.tmp d) y ∧ storeFree s.t (refsAt s.t o.op) ok.op = true ∧ slotFree E.T ops listed ok.op = true
 have hA0 : ∀ d, D d → s.t.getD d .any = .any ∨ ∃ j off, s.t.getD d .any = .ptr j off ∧ j ∉ refsAt s.t o.op := fun d hd => by
  obtain ⟨k', ok', ty, y, _, _, hop', hst, _⟩ := hd
  rw [hop'] at hst
  simp only [storeFree] at hst
  split at hst
  ·rename_i jb off hd
   exact .inr ⟨jb, off, hd, by simpa using hst⟩
  ·rename_i hd
   exact .inl hd
  ·cases hst
 refine anyS_first hE ho (fun t => ∀ d, D d → t.getD d .any = .any ∨ ∃ j off, t.getD d .any = .ptr j off ∧ j ∉ refsAt s.t o.op) (fun mm => ∀ q ∈ refsAt s.t o.op, mm[q]? = s.m[q]?) f listed s hc hA0 (fun _ _ => rfl) (fun k ok hk hki hun => ?_) hjr (fun mm hmm => ?_) hS
 ·have h1 := hall k (Array.getElem?_eq_some_iff.1 hk).1
  simp only [hk, Bool.or_eq_true, beq_iff_eq, Bool.and_eq_true] at h1
  rcases h1 with (((h1 | h1) | h1) | h1) | h1
  ·exact absurd h1 hki
  ·exfalso
   rw [getD_tf hun] at h1
   cases h1
  ·exact .inl (wait_bit h1)
  ·exfalso
   obtain ⟨_, o', ho', hal⟩ := mem_ready.1 hjr
   have := waits_listed hc (wait_bit h1) (fun o2 ho2 => by rw [ho'] at ho2; cases ho2; exact hal)
   have h3 := getD_tf hun
   rw [h3] at this
   cases this
  ·refine .inr ⟨fun t mm u m' hA hI hr => ⟨fun d hd => ?_, fun q hq => ?_⟩, h1.2⟩
   ·by_cases hne : ok.dst = some d
    ·obtain ⟨k', ok', ty, y, _, _, hop', _, hsl⟩ := hd
     rw [hop'] at hsl
     simp only [slotFree, List.all_eq_true, List.mem_range, Bool.or_eq_true] at hsl
     rcases hsl k (Array.getElem?_eq_some_iff.1 hk).1 with h | h
     ·rw [getD_tf hun] at h; cases h
     ·rw [hk] at h
      simp only [hne, bne_self_eq_false, Bool.false_eq_true, false_or, Bool.or_eq_true, Bool.and_eq_true, Option.isNone_iff_eq_none] at h
      cases hr with
      | skip hv hm j' want hg => rw [h.2] at hg; cases hg
      | run hr0 _ =>
       have hv := alloc_val h.1 hr0
       rw [hne]
       show (t.set d u).getD d .any = .any ∨ _
       by_cases hdl : d < t.length
       ·refine .inr ⟨mm.length, 0, ?_, fun hin => ?_⟩
        ·rw [List.getD_eq_getElem?_getD]
         simp [hdl, hv, put]
        ·have h1 := hI _ hin
         have h2 := hlt _ hin
         rw [List.getElem?_eq_none (Nat.le_refl _), List.getElem?_eq_getElem h2] at h1
         cases h1
       ·left
        rw [List.getD_eq_getElem?_getD, List.getElem?_eq_none (by simpa using Nat.le_of_not_lt hdl)]
        rfl
    ·rw [getD_put (by intro he; exact hne he)]
     exact hA d hd
   ·have hmq := hI q hq
    have hql := hlt q hq
    have hlm : q < mm.length := by
     rcases Nat.lt_or_ge q mm.length with h | h
     ·exact h
     ·rw [List.getElem?_eq_none h, List.getElem?_eq_getElem hql] at hmq; cases hmq
    rw [← hmq]
    cases hr with
    | skip _ hm => rw [hm]
    | run hr0 _ =>
     rcases h1.1 with (hg | ⟨hst, hsl⟩) | ⟨hb, hro⟩
     ·obtain ⟨os, rfl⟩ := grow_run hE hL hg hr0
      rw [List.getElem?_append_left hlm]
     ·have hst0 := hst
      unfold storeFree at hst
      split at hst
      ·rename_i ty d y hop
       have hDd : D d := ⟨k, ok, ty, y, hk, hun, hop, hst0, hsl⟩
       rcases hA d hDd with hd | ⟨jb, off, hd, hnj⟩
       ·exact (store_any hop (by simp only [ev]; exact hd) hr0).elim
       ·exact store_keep hop (j := jb) (off := off) (by simp only [ev]; exact hd) hr0 (fun e => hnj (e ▸ hq)) hlm
      ·cases hst
     ·have hbq := List.all_eq_true.1 hb q hq
      split at hbq
      ·rename_i hblk
       exact row_keep hro hr0 (by rw [hmq]; exact hblk) hbq
      ·cases hbq
 ·cases hran with
  | skip hv hm i want hg d hd hs => exact .skip hv rfl i want hg d hd hs
  | run hr hw =>
   refine .run ?_ hw
   have hn' : opnil E.T o.type o.op = none := by simpa using hquiet.1.1
   have hnl : ∀ m', opnl E.T s.t m' o.type o.op = none := fun m' => opnl_none hq0 hquiet.1.2
   unfold runO at hr ⊢
   rw [opx_quiet hq0] at hr ⊢
   unfold opx0 at hr ⊢
   simp only [hn', hnl] at hr ⊢
   cases hqv : opq E.T s.t s.m o.op with
   | some cv =>
    rw [opq_at hmm hqv]
    simp only [hqv] at hr ⊢
    obtain ⟨hc', hr⟩ := req_some hr
    cases hr
    rw [hc']
    rfl
   | none =>
    rcases hq0 with h | h
    ·rw [hqv] at h; cases h
    ·obtain ⟨r, hrd⟩ := Option.isSome_iff_exists.1 h
     obtain ⟨ty, ad, hop⟩ : ∃ ty ad, o.op = .load ty ad := by
      cases hop : o.op <;> rw [hop] at hrd <;> simp only [oprd] at hrd <;> first | exact ⟨_, _, rfl⟩ | cases hrd
     have hqn : opq E.T s.t mm o.op = none := by
      cases hx : opq E.T s.t mm o.op with
      | none => rfl
      | some cv => rw [opq_at (m := mm) (m' := s.m) (fun q hq => (hmm q hq).symm) hx] at hqv; cases hqv
     simp only [hqv, hqn] at hr ⊢
     rw [hop] at hr hrd ⊢
     have hrd' := oprd_at (m' := mm) (by rw [← hop]; exact hmm) hrd
     simp only [opa, opst, opap, opan, opsl, hrd, hrd'] at hr ⊢
     obtain ⟨y, hy, hr⟩ := Option.bind_eq_some_iff.1 hr
     rw [hy, Option.bind_some]
     split at hr
     ·rename_i u hu
      simp only [Option.some.injEq, Prod.mk.injEq] at hr
      obtain ⟨rfl, _⟩ := hr
      rfl
     ·cases hr
theorem anyS_of (hE : EnvOk P E) (hL : LawEnv E) {X : Type} {n : St → Option X} {x : X} : ∀ (f : Nat) (listed : Array Bool) (s : St), Closed ops listed → anyX E ops n (f + 1) listed s = some x → AnyS E ops n x f listed s := by
 intro f
 induction f with
 | zero =>
  intro listed s hc h
  simp only [anyX] at h
  split at h
  ·rename_i hr; exact ⟨hr, h⟩
  ·rename_i i r hr
   have hop : ∀ j ∈ i :: r, ∃ o, ops[j]? = some o := fun j hj => by
    rw [← hr] at hj
    obtain ⟨_, o, ho, _⟩ := mem_ready.1 hj
    exact ⟨o, ho⟩
   split at h
   ·rename_i j hj
    obtain ⟨o, ho⟩ := hop j (List.mem_of_find?_eq_some hj)
    obtain ⟨_, _, _, hk⟩ := step_ran hE hL ho h
    cases hk
   ·obtain ⟨o, ho⟩ := hop i (by simp)
    obtain ⟨_, _, _, hk⟩ := step_ran hE hL ho (allB_some h i (by simp))
    cases hk
 | succ f ih =>
  intro listed s hc h
  rw [anyX] at h
  split at h
  ·rename_i hr
   exact ⟨fun _ => h, fun i hi => by rw [hr] at hi; cases hi⟩
  ·rename_i i r hr
   have hop : ∀ j ∈ i :: r, j ∈ Region.ready .any ops listed ∧ ∃ o, ops[j]? = some o := fun j hj => by
    rw [← hr] at hj
    obtain ⟨_, o, ho, _⟩ := mem_ready.1 hj
    exact ⟨hj, o, ho⟩
   split at h
   ·rename_i j hj
    obtain ⟨hjr, o, ho⟩ := hop j (List.mem_of_find?_eq_some hj)
    have hp := List.find?_some hj
    simp only [Bool.and_eq_true] at hp
    obtain ⟨hquiet, hstat⟩ := hp
    obtain ⟨v, m', hran, hk⟩ := step_ran hE hL ho h
    unfold isQuiet at hquiet
    simp only [ho, Bool.and_eq_true, Bool.or_eq_true] at hquiet hstat
    rcases hstat with hstat | hstat
    rotate_left
    ·exact anyS_at hE hL hc hjr ho hstat hquiet hran (ih _ _ (hc.step hjr) (by obtain ⟨hm, _⟩ := qran_of hran hquiet.1.1 hquiet.1.2 (hquiet.2.imp id fun h => h.2); subst hm; exact hk))
    have hfree : ∀ (I : Mem → Prop), (∀ (k : Nat) (ok : Oper), ops[k]? = some ok → (regOp o.op = true ∨ growOp E ok.op = true) → ∀ (t : List SV) (mm : Mem) (u : SV) (m' : Mem), I mm → Ran E ops ok t mm u m' → I m') →
      ∀ (k : Nat) (ok : Oper), ops[k]? = some ok → k ≠ j → listed.getD k true = false → Waits ops k j ∨ ((∀ (t : List SV) (mm : Mem) (u : SV) (m' : Mem), True → I mm → Ran E ops ok t mm u m' → True ∧ I m') ∧ o.apart ops ok = true) := by
     intro I hI k ok hk hki hun
     unfold statOk at hstat
     simp only [ho, List.all_eq_true, List.mem_range] at hstat
     have h1 := hstat k (Array.getElem?_eq_some_iff.1 hk).1
     simp only [hk, Bool.or_eq_true, beq_iff_eq, Bool.and_eq_true] at h1
     rcases h1 with ((h1 | h1) | h1) | h1
     ·exact absurd h1 hki
     ·exact .inl (wait_bit h1)
     ·exfalso
      obtain ⟨_, o', ho', hall⟩ := mem_ready.1 hjr
      have := waits_listed hc (wait_bit h1) (fun o2 ho2 => by rw [ho'] at ho2; cases ho2; exact hall)
      have h3 := getD_tf hun
      rw [h3] at this
      cases this
     ·exact .inr ⟨fun t mm u m' _ hi hr => ⟨trivial, hI k ok hk h1.1 t mm u m' hi hr⟩, h1.2⟩
    by_cases hreg : regOp o.op = true
    ·have hq1 : (opq E.T s.t s.m o.op).isSome = true := by
      rcases hquiet.2 with h | h
      ·exact h
      ·rw [hreg] at h; simp at h
     obtain ⟨hm, hq⟩ := regran_of hran hquiet.1.1 hquiet.1.2 hreg hq1
     subst hm
     exact anyS_first hE ho (fun _ => True) (fun _ => True) f listed s hc trivial trivial (hfree _ fun _ _ _ _ _ _ _ _ _ _ => trivial) hjr (fun mm _ => hq mm) (ih _ _ (hc.step hjr) hk)
    ·obtain ⟨hm, hq⟩ := qran_of hran hquiet.1.1 hquiet.1.2 (hquiet.2.imp id fun h => h.2)
     subst hm
     refine anyS_first hE ho (fun _ => True) (fun mm => ∃ os, mm = s.m ++ os) f listed s hc trivial ⟨[], by simp⟩ (hfree _ fun k ok hk hg t mm u m' => ?_) hjr (fun mm ⟨os, e⟩ => e ▸ hq os) (ih _ _ (hc.step hjr) hk)
     rintro ⟨os, rfl⟩ hran2
     have hgrow := hg.resolve_left hreg
     cases hran2 with
     | run hr0 _ =>
      obtain ⟨os', e⟩ := grow_run hE hL hgrow hr0
      exact ⟨os ++ os', by rw [e, List.append_assoc]⟩
     | skip _ hm => exact ⟨os, hm⟩
   ·refine ⟨fun h0 => (by rw [hr] at h0; cases h0), fun j hj => ?_⟩
    rw [hr] at hj
    obtain ⟨hjr, o, ho⟩ := hop j hj
    obtain ⟨v, m', hran, hk⟩ := step_ran hE hL ho (allB_some h j hj)
    exact ⟨o, v, m', ho, hran, ih _ _ (hc.step hjr) hk⟩
variable {W : World} {X : Type}
theorem ran_wp (hE : EnvOkW P E W) {i : Nat} {o : Oper} (ho : ops[i]? = some o) {Q : Exit → Act → World → Prop} {s : St} {ρ : Nat → Value} {a : Act} {w : World} (hs : RelS W ρ s a w) {v : SV} {m' : Mem} (h : Ran E ops o s.t s.m v m') {K : Act → World → Prop}
  (hK : ∀ ρ' a' w', Agree s.m.length ρ ρ' → s.m.length ≤ m'.length → RelS W ρ' ⟨put s.t o.dst v, m'⟩ a' w' → K a' w') : wpOp P ops Q i K a w := by
 unfold wpOp
 simp only [ho]
 cases h with
 | run hr hw =>
  have hwant : Region.wanted o (yielded ops a.tmps) = true := by
   cases hg : o.guard with
   | none => simp [Region.wanted, hg]
   | some jw =>
    obtain ⟨j, want⟩ := jw
    obtain ⟨d, hd, he⟩ := hw j want hg
    have hy := yielded_of hs.t (ops := ops) (j := j) (d := d) (by rw [Array.getElem?_toList]; exact hd) he
    simp [Region.wanted, hg, hy]
  rw [if_pos hwant]
  refine .inl (opx_ok hE hs.t hs.m hs.d hr fun ρ' u m2 a' w' hag hle hs' hk => ?_)
  cases hk
  exact hK ρ' a' w' hag hle hs'
 | skip hv hm j want hg d hd hss =>
  subst hv hm
  have hwant : Region.wanted o (yielded ops a.tmps) = false := by
   rcases hss with he | he
   ·have hy := yielded_of hs.t (ops := ops) (j := j) (d := d) (by rw [Array.getElem?_toList]; exact hd) he
    cases want <;> simp [Region.wanted, hg, hy]
   ·have hy := yielded_undef hs.t (ops := ops) (j := j) (d := d) (by rw [Array.getElem?_toList]; exact hd) he
    simp [Region.wanted, hg, hy]
  rw [if_neg (by simp [hwant])]
  exact hK ρ _ w (Agree.refl _ _) (Nat.le_refl _) ⟨hs.t.put o.dst (fun _ => ⟨rfl, rfl⟩), hs.m, by rw [put_defers]; exact hs.d⟩
theorem anyS_wp (hE : EnvOkW P E W) {n : St → Option X} {x : X} {Q : Exit → Act → World → Prop} : ∀ (f : Nat) (listed : Array Bool) (s : St) (ρ : Nat → Value) (a : Act) (w : World), RelS W ρ s a w → AnyS E ops n x f listed s →
  (∀ ρ' s' a' w', Agree s.m.length ρ ρ' → s.m.length ≤ s'.m.length → RelS W ρ' s' a' w' → n s' = some x → Q .normal a' w') → wpAny P .any ops Q f listed a w
 | 0, listed, s, ρ, a, w, hs, h, hQ => ⟨h.1, hQ ρ s a w (Agree.refl _ _) (Nat.le_refl _) hs h.2⟩
 | f + 1, listed, s, ρ, a, w, hs, h, hQ => by
  refine ⟨fun hr => hQ ρ s a w (Agree.refl _ _) (Nat.le_refl _) hs (h.1 hr), fun i hi => ?_⟩
  obtain ⟨o, v, m', ho, hran, hrest⟩ := h.2 i hi
  refine ran_wp hE ho hs hran fun ρ' a' w' hag hle hs' => ?_
  exact anyS_wp hE f _ _ ρ' a' w' hs' hrest fun ρ'' s'' a'' w'' hag' hle' hs'' hn => hQ ρ'' s'' a'' w'' (hag.trans hag' hle) (Nat.le_trans hle hle') hs'' hn
theorem any_code_of (hE : EnvOkW P E W) {id base : Nat} {s : St} {n : St → Option X} {e : Nat → St → Option X} {r : St → Option X} {x : X} (hS : AnyS (lawE E) ops n x ops.size (Array.replicate ops.size false) s) :
  CodeN ⟨P, W⟩ base (.region id ops true) s (fun s' => n s' = some x) (fun i s' => e i s' = some x) (fun s' => r s' = some x) := by
 refine ⟨fun hb ρ a w Q hs hn _ _ => ?_⟩
 refine wp_region_any hE.T.mixed ?_
 exact anyS_wp ⟨lawE_ok hE.toEnvOk, hE.glob⟩ _ _ s ρ a _ ⟨hs.t, hs.m.drawn _, hs.d⟩ hS fun ρ' s' a' w' hag hle hs' hk => hn ρ' s' a' w' (hag.mono hb) (Nat.le_trans hb hle) hs' hk
theorem waits_bits (b : Nat) : ∀ (l : List Edge) (s : Nat), (l.foldl (fun s e => if Region.binds .any e then s ||| 2 ^ e.on else s) s).testBit b = (s.testBit b || l.any fun e => Region.binds .any e && decide (e.on = b))
 | [], s => by simp
 | e :: r, s => by
  simp only [List.foldl_cons, List.any_cons]
  rw [waits_bits b r]
  cases hb : Region.binds .any e
  ·simp
  ·simp only [if_true, Nat.testBit_or, Nat.testBit_two_pow, Bool.true_and, Bool.or_assoc]
theorem and_self_iff (x m : Nat) : x &&& m = x ↔ ∀ b, x.testBit b = true → m.testBit b = true := by
 constructor
 ·intro h b hb
  rw [← h, Nat.testBit_and, Bool.and_eq_true] at hb
  exact hb.2
 ·intro h
  refine Nat.eq_of_testBit_eq fun b => ?_
  rw [Nat.testBit_and]
  cases hb : x.testBit b
  ·rfl
  ·rw [h b hb]; rfl
theorem waits1_iff (o : Oper) (mask : Nat) : Nat.beq (waits1 o &&& mask) (waits1 o) = o.after.all fun e => !Region.binds .any e || mask.testBit e.on := by
 rw [Bool.eq_iff_iff, Nat.beq_eq, and_self_iff, Array.all_eq_true']
 unfold waits1
 constructor
 ·intro h e he
  cases hb : Region.binds .any e
  ·rfl
  ·have := h e.on (by rw [waits_bits]; simp only [Nat.zero_testBit, Bool.false_or, List.any_eq_true]; exact ⟨e, by simpa using he, by simp [hb]⟩)
   rw [this]; rfl
 ·intro h b hb
  rw [waits_bits] at hb
  simp only [Nat.zero_testBit, Bool.false_or, List.any_eq_true, Bool.and_eq_true, decide_eq_true_eq] at hb
  obtain ⟨e, he, hbb, rfl⟩ := hb
  have := h e (by simpa using he)
  rw [hbb] at this
  simpa using this
theorem readyM_eq {mask : Nat} {listed : Array Bool} (hr : ∀ i, listed.getD i false = mask.testBit i) (hs : listed.size = ops.size) : readyM ops mask = Region.ready .any ops listed := by
 unfold readyM Region.ready
 refine List.filter_congr fun i hi => ?_
 have hi' : i < listed.size := by rw [hs]; exact List.mem_range.1 hi
 have h1 : listed.getD i true = mask.testBit i := by
  rw [← hr i]
  simp [hi']
 rw [h1]
 congr 1
 cases ops[i]? with
 | none => rfl
 | some o =>
  simp only [Option.map_some, Option.getD_some]
  rw [waits1_iff]
  congr 1
  funext e
  rw [hr]
theorem allB_congr {X : Type} {f g : Nat → Option X} : ∀ {l : List Nat}, (∀ j ∈ l, f j = g j) → allB l f = allB l g
 | [], _ => rfl
 | [i], h => h i (by simp)
 | i :: k :: r, h => by
  simp only [allB]
  rw [h i (by simp), allB_congr (l := k :: r) fun j hj => h j (List.mem_cons_of_mem _ hj)]
theorem anyXM_eq {n : St → Option X} : ∀ (fuel mask : Nat) (listed : Array Bool) (s : St), (∀ i, listed.getD i false = mask.testBit i) → listed.size = ops.size → anyXM E ops n fuel mask listed s = anyX E ops n fuel listed s
 | 0, _, _, _, _, _ => rfl
 | fuel + 1, mask, listed, s, hr, hs => by
  have hnext : ∀ j ∈ Region.ready .any ops listed, ∀ s', anyXM E ops n fuel (mask ||| 2 ^ j) (listed.setIfInBounds j true) s' = anyX E ops n fuel (listed.setIfInBounds j true) s' := fun j hj s' => by
   refine anyXM_eq fuel _ _ s' (fun i => ?_) (by simpa using hs)
   have hjl : j < listed.size := by
    have := (mem_ready.1 hj).1
    by_cases h : j < listed.size
    ·exact h
    ·simp [h] at this
   rw [Nat.testBit_or, Nat.testBit_two_pow, ← hr i]
   by_cases hij : j = i
   ·subst hij
    simp [hjl]
   ·rw [getD_set_ne false hij]
    simp [hij]
  rw [anyXM, anyX, readyM_eq hr hs]
  split
  ·rfl
  ·rename_i i r hir
   rw [hir] at hnext
   have hq : (fun j => isQuiet E ops j s && (statOk E ops j || statAt E ops listed s j)) = (fun j => isQuiet E ops j s && (statOk E ops j || statAt E ops listed s j)) := rfl
   split
   ·rename_i j hj
    congr 1
    funext s'
    exact hnext j (List.mem_of_find?_eq_some hj) s'
   ·refine allB_congr fun j hj => ?_
    congr 1
    funext s'
    exact hnext j hj s'
theorem listed0 (i k : Nat) : (Array.replicate k false).getD i false = Nat.testBit 0 i := by
 rw [Nat.zero_testBit]
 by_cases h : i < k <;> simp [h]
theorem any_code (hE : EnvOkW P E W) {id base : Nat} {s : St} {n : St → Option X} {e : Nat → St → Option X} {r : St → Option X} {x : X} (h : anyXM (lawE E) ops n (ops.size + 1) 0 (Array.replicate ops.size false) s = some x) :
  CodeN ⟨P, W⟩ base (.region id ops true) s (fun s' => n s' = some x) (fun i s' => e i s' = some x) (fun s' => r s' = some x) := by
 rw [anyXM_eq _ _ _ _ (fun i => listed0 i _) (by simp)] at h
 exact any_code_of hE (anyS_of (lawE_ok hE.toEnvOk) (lawE_law E) ops.size _ s (fun j o ho hj => by
  exfalso
  simp only [Array.getD_eq_getD_getElem?, Array.getElem?_replicate] at hj
  split at hj <;> simp at hj) h)
theorem putT_len (t : List SV) (d : Option Nat) (v : SV) : (put t d v).length = t.length := by
 cases d <;> simp [put]
theorem anyS_mono {n n' : St → Option X} {x : X} {L : Nat} (hn : ∀ s : St, s.t.length = L → n s = some x → n' s = some x) : ∀ (f : Nat) (listed : Array Bool) (s : St), s.t.length = L → AnyS E ops n x f listed s → AnyS E ops n' x f listed s
 | 0, _, s, hL, h => ⟨h.1, hn s hL h.2⟩
 | f + 1, _, s, hL, h => ⟨fun hr => hn s hL (h.1 hr), fun i hi => by
  obtain ⟨o, v, m', ho, hran, hrest⟩ := h.2 i hi
  exact ⟨o, v, m', ho, hran, anyS_mono hn f _ _ (by rw [putT_len]; exact hL) hrest⟩⟩
theorem outR_outF {m base : Nat} : ∀ {l : List ExitF} {s : St} {y : OutT l}, s.t.length = m → outR base l s = some y → outF m base l (some BIG) s = some y
 | [], _, _, _, h => by cases h
 | [x], s, y, hL, h => by
  simp only [outR, outF] at h ⊢
  cases hc : atEq x.at_ (some BIG)
  ·rw [hc] at h; cases h
  ·rw [hc] at h
   simp only [cond_true] at h ⊢
   unfold isF
   rw [decide_eq_true hL, Bool.true_and]
   exact h
 | _ :: _ :: _, _, _, _, h => by cases h
theorem any_codeR (hE : EnvOkW P E W) {id base : Nat} {s : St} {js : JoinS} {e : Nat → St → Option (OutT js.exits)} {r : St → Option (OutT js.exits)} {y : OutT js.exits} (hL : s.t.length = js.n) (h : anyXM (lawE E) ops (outR base js.exits) (ops.size + 1) 0 (Array.replicate ops.size false) s = some y) :
  CodeN ⟨P, W⟩ base (.region id ops true) s (fun s' => outF js.n base js.exits (some BIG) s' = some y) (fun i s' => e i s' = some y) (fun s' => r s' = some y) := by
 rw [anyXM_eq _ _ _ _ (fun i => listed0 i _) (by simp)] at h
 exact any_code_of hE (anyS_mono (fun s' hs' hk => outR_outF hs' hk) _ _ _ hL (anyS_of (lawE_ok hE.toEnvOk) (lawE_law E) ops.size _ s (fun j o ho hj => by
  exfalso
  simp only [Array.getD_eq_getD_getElem?, Array.getElem?_replicate] at hj
  split at hj <;> simp at hj) h))
end
section
variable {P : Program} {W : World} {E : Env}
theorem join_code {X : Type} {x : X} {base : Nat} {cc : Code} {s : St} {n : St → Option X} {e : Nat → St → Option X} {r : St → Option X} {js : JoinS} {y0 : OutT js.exits}
  (hc : CodeN ⟨P, W⟩ base cc s (fun s' => outF js.n base js.exits (some BIG) s' = some y0) (fun i s' => (bif Nat.beq i BIG then none else outF js.n base js.exits (some i) s') = some y0) (fun s' => outF js.n base js.exits none s' = some y0))
  (hgo : goOn js.n (joinE n e) r js.exits y0 = some x) (hb : base ≤ s.m.length) {ρ : Nat → Value} {a : Act} {w : World} {Q : Exit → Act → World → Prop} (hs : RelS W ρ s a w)
  (hn : ∀ ρ' s' a' w', Agree base ρ ρ' → base ≤ s'.m.length → RelS W ρ' s' a' w' → n s' = some x → Q .normal a' w')
  (he : ∀ i ρ' s' a' w', Agree base ρ ρ' → base ≤ s'.m.length → RelS W ρ' s' a' w' → e i s' = some x → Q (.exit i) a' w')
  (hr : ∀ ρ' s' a' w', Agree base ρ ρ' → base ≤ s'.m.length → RelS W ρ' s' a' w' → r s' = some x → Q .ret a' w') : Code.wp P cc Q a w :=
 hc.code hb ρ a w Q hs
  (fun ρ'' s'' a'' w'' hag' hle' hs'' hk => by
   obtain ⟨f, u, hf, hgo'⟩ := out_go js.exits (some BIG) s'' y0 hk hgo
   obtain ⟨ρ3, hs3, hag3, hle3⟩ := hs''.form hf
   exact hn ρ3 _ a'' w'' (hag'.trans hag3 (Nat.le_refl _)) hle3 hs3 hgo')
  (fun i ρ'' s'' a'' w'' hag' hle' hs'' hk => by
   cases hi : Nat.beq i BIG
   ·rw [hi] at hk
    obtain ⟨f, u, hf, hgo'⟩ := out_go js.exits (some i) s'' y0 hk hgo
    obtain ⟨ρ3, hs3, hag3, hle3⟩ := hs''.form hf
    have hgo2 : joinE n e i (stF js.n f u) = some x := hgo'
    unfold joinE at hgo2
    rw [hi] at hgo2
    exact he i ρ3 _ a'' w'' (hag'.trans hag3 (Nat.le_refl _)) hle3 hs3 hgo2
   ·rw [hi] at hk
    cases hk)
  (fun ρ'' s'' a'' w'' hag' hle' hs'' hk => by
   obtain ⟨f, u, hf, hgo'⟩ := out_go js.exits none s'' y0 hk hgo
   obtain ⟨ρ3, hs3, hag3, hle3⟩ := hs''.form hf
   exact hr ρ3 _ a'' w'' (hag'.trans hag3 (Nat.le_refl _)) hle3 hs3 hgo')
theorem ix_ok {X : Type} (hE : EnvOkW P E W) {x : X} {base : Nat} : ∀ (c : Code) (s : St) (n : St → Option X) (e : Nat → St → Option X) (r : St → Option X), LoopsOk P E c → ix E base c s n e r = some x →
  CodeN ⟨P, W⟩ base c s (fun s' => n s' = some x) (fun i s' => e i s' = some x) (fun s' => r s' = some x)
 | .skip, s, n, e, r, _, h => ⟨fun hb ρ a w Q hs hn _ _ => wp_skip (hn ρ s a w (Agree.refl _ _) hb hs h)⟩
 | .region i ops false, s, n, e, r, _, h => ⟨fun hb ρ a w Q hs hn _ _ => wp_region_list (opsxj_ok hE _ ops.toList s ρ a w hs h fun ρ' s' a' w' hag hle => hn ρ' s' a' w' (hag.mono hb) (Nat.le_trans hb hle))⟩
 | .region i ops true, s, n, e, r, _, h => by
   simp only [ix] at h
   cases hqb : ops.toList.all (fun o => quietB E o.op)
   ·rw [hqb] at h
    simp only [cond_false] at h
    cases hns : Region.noSelect ops
    ·rw [hns] at h; cases h
    ·rw [hns] at h
     simp only [cond_true] at h
     split at h
     ·rename_i js _
      cases hLb : decide (s.t.length = js.n)
      ·rw [hLb] at h; cases h
      rw [hLb] at h
      simp only [cond_true] at h
      obtain ⟨y0, hy, hgo⟩ := Option.bind_eq_some_iff.1 h
      exact ⟨fun hb ρ a w Q hs hn he hr => join_code (any_codeR hE (of_decide_eq_true hLb) (e := fun i s' => (bif Nat.beq i BIG then none else outF js.n base js.exits (some i) s')) (r := fun s' => outF js.n base js.exits none s') hy) hgo hb hs hn he hr⟩
     ·exact any_code hE h
   rw [hqb] at h
   simp only [cond_true] at h
   split at h
   ·rename_i hlex
    refine ⟨fun hb ρ a w Q hs hn _ _ => ?_⟩
    refine wp_region_quiet (C := RelM W ρ s.m) hE.T.mixed hlex (hs.m.drawn _) ?_
    refine opsxqj_ok hE hs.m.lt _ ops.toList s.t a hs.t hs.d h fun t' a' ht' hd' hk w' hw' => ?_
    exact hn ρ ⟨t', s.m⟩ a' w' (Agree.refl _ _) hb ⟨ht', hw', hd'⟩ hk
   ·cases h
 | .seq y z, s, n, e, r, hl, h => ⟨fun hb ρ a w Q hs hn he hr => by
   have hl1 : LoopsOk P E y := fun b hb => hl b (by simp [loopsOf, hb])
   have hl2 : LoopsOk P E z := fun b hb => hl b (by simp [loopsOf, hb])
   refine wp_seq ((ix_ok hE y s _ e r hl1 h).code hb ρ a w _ hs (fun ρ' s' a' w' hag hle hs' hk => ?_) he hr)
   exact (ix_ok hE z s' n e r hl2 hk).code hle ρ' a' w' Q hs' (fun ρ'' s'' a'' w'' hag' hle' hs'' hn' => hn ρ'' s'' a'' w'' (hag.trans hag' (Nat.le_refl _)) hle' hs'' hn')
    (fun i ρ'' s'' a'' w'' hag' hle' hs'' hn' => he i ρ'' s'' a'' w'' (hag.trans hag' (Nat.le_refl _)) hle' hs'' hn')
    (fun ρ'' s'' a'' w'' hag' hle' hs'' hn' => hr ρ'' s'' a'' w'' (hag.trans hag' (Nat.le_refl _)) hle' hs'' hn')⟩
 | .cond c y z, s, n, e, r, hl, h => ⟨fun hb ρ a w Q hs hn he hr => by
   have hl1 : LoopsOk P E y := fun b hb => hl b (by simp [loopsOf, hb])
   have hl2 : LoopsOk P E z := fun b hb => hl b (by simp [loopsOf, hb])
   simp only [ix] at h
   split at h
   ·rename_i ex hc
    have := (hs.t.ev c (by rw [hc]; rfl)).2
    rw [hc] at this
    simp only [den] at this
    refine wp_cond this ?_
    split at h
    ·rename_i js _
     obtain ⟨y0, hy, hgo⟩ := Option.bind_eq_some_iff.1 h
     rcases br_some hy with ⟨hx, hy⟩ | ⟨hx, hy⟩
     ·subst hx
      simp only [if_true]
      exact join_code (ix_ok hE y s _ _ _ hl1 hy) hgo hb hs hn he hr
     ·subst hx
      simp only [Bool.false_eq_true, if_false]
      exact join_code (ix_ok hE z s _ _ _ hl2 hy) hgo hb hs hn he hr
    rcases br_some h with ⟨hx, h⟩ | ⟨hx, h⟩
    ·subst hx
     simp only [if_true]
     exact (ix_ok hE y s n e r hl1 h).code hb ρ a w Q hs hn he hr
    ·subst hx
     simp only [Bool.false_eq_true, if_false]
     exact (ix_ok hE z s n e r hl2 h).code hb ρ a w Q hs hn he hr
   ·cases h⟩
 | .block i y, s, n, e, r, hl, h => ⟨fun hb ρ a w Q hs hn he hr => by
   refine wp_block ((ix_ok hE y s n _ r (fun b hb => hl b (by simp [loopsOf, hb])) h).code hb ρ a w _ hs hn (fun j ρ' s' a' w' hag hle hs' hk => ?_) hr)
   simp only [Exit.inBlock]
   cases hji : (j == i)
   ·rw [hji] at hk
    rw [if_neg (by simpa using hji)]
    exact he j ρ' s' a' w' hag hle hs' hk
   ·rw [hji] at hk
    rw [if_pos (by simpa using hji)]
    exact hn ρ' s' a' w' hag hle hs' hk⟩
 | .loop b, s, n, e, r, hl, h => by
   simp only [ix] at h
   split at h
   ·rename_i l hb
    have := hl b (by simp [loopsOf]) l hb W hE.glob X base s e r x h
    exact ⟨fun hb ρ a w Q hs _ he hr => this.code hb ρ a w Q hs (fun _ _ _ _ _ _ _ hf => hf.elim) he hr⟩
   ·cases h
 | .exit i, s, n, e, r, _, h => ⟨fun hb ρ a w Q hs _ he _ => wp_exit (he i ρ s a w (Agree.refl _ _) hb hs h)⟩
 | .ret, s, n, e, r, _, h => ⟨fun hb ρ a w Q hs _ _ hr => wp_ret (hr ρ s a w (Agree.refl _ _) hb hs h)⟩
 | .rangeFunc .., _, _, _, _, _, h => by simp only [ix] at h; cases h
 | .scope _, _, _, _, _, _, h => by simp only [ix] at h; cases h
 | .label _, _, _, _, _, _, h => by simp only [ix] at h; cases h
 | .goto _, _, _, _, _, _, h => by simp only [ix] at h; cases h
 | .refuse _, _, _, _, _, _, h => by simp only [ix] at h; cases h
end
end Go.Ma
namespace Go.Ma
open Go Go.RowKit
section
variable {T : Nat → TI}
theorem lt_of_take {n : Nat} {cs l : List SV} {off k : Nat} (h : takeCells cs off k = some l) {ty : TypeId} {own : Bool} (hb : (Obj.blk cs ty own).lt n = true) : ltL n l = true := by
 obtain ⟨rfl, _, _, hone⟩ := takeCells_spec h
 simp only [Obj.lt, List.all_eq_true, Bool.or_eq_true] at hb
 rw [ltL_all, List.all_eq_true]
 exact fun c hc => (hb c (List.mem_of_mem_drop (List.mem_of_mem_take hc))).resolve_left (by simp [one_any (hone c hc)])
theorem valOf_lt {n : Nat} {ti : TI} {l : List SV} {v : SV} (h : valOf ti l = some v) (hl : ltL n l = true) : v.lt n = true := by
 unfold valOf at h
 split at h
 ·injection h with h; subst h; simpa [SV.lt] using hl
 ·split at h
  ·injection h with h; subst h; simpa [ltL] using hl
  ·cases h
def resRun (tmps : Array Value) : ResultVar → Sem Value
 | .tmp t => pure (tmps.getD t undef)
 | .cell a t => do loadVar t (← asAddr (tmps.getD a undef))
theorem results_eq (fn : Func) (tmps : Array Value) : results fn tmps = (do let vs ← fn.results.mapM (resRun tmps); pure (if h : vs.size = 1 then vs[0] else .tuple vs)) := by
 unfold results resRun
 rfl
theorem resC_ok {P : Program} (hT : TOk P T) {W : World} {ρ : Nat → Value} {s : St} {a : Act} {w : World} (hs : RelS W ρ s a w) {r : ResultVar} {v : SV} (h : resC T s r = some v) :
  (resRun a.tmps r).run P w = .ok (den ρ v) w ∧ v.lt s.m.length = true := by
 cases r with
 | tmp t =>
  simp only [resC] at h
  split at h
  ·cases h
  ·rename_i hany
   injection h with h
   subst h
   obtain ⟨h1, h2⟩ := hs.t.ev (.tmp t) (by simpa [ev] using hany)
   simp only [ev, Act.eval] at h1 h2
   exact ⟨by simp [resRun, h2], h1⟩
 | cell ad ty =>
  simp only [resC] at h
  split at h
  ·rename_i j off hj
   split at h
   ·rename_i cs bt own hm
    split at h
    ·rename_i hk
     obtain ⟨l, hl, hv⟩ := Option.bind_eq_some_iff.1 h
     have h2 := (hs.t.ev (.tmp ad) (by simp only [ev]; rw [hj]; rfl)).2
     simp only [ev, Act.eval, hj] at h2
     obtain ⟨b, arr, hb, hh, _, hc⟩ := hs.m.blk hm
     simp only [den, hb, ptrOff, add_zero_addr, Nat.zero_add] at h2
     obtain ⟨_, hlen, hget, hone⟩ := takeCells_spec hl
     have hrun := run_loadVar (hT.ty ty hk) (w := w) (a := ⟨b, off, none⟩) (ρ := ρ) hlen hv (fun i c hi => by
      rw [add_zero_addr, cells_of_blk hh]
      have hil : i < (T ty).size := by rw [← hlen]; exact (List.getElem?_eq_some_iff.1 hi).1
      have := hget i hil
      rw [hi] at this
      exact hc _ c this (one_any (hone c (List.mem_of_getElem? hi))))
     exact ⟨by simp [resRun, h2, asAddr, hrun], valOf_lt hv (lt_of_take hl (hs.m.lt j _ hm))⟩
    ·cases h
   ·cases h
  ·cases h
theorem resL_ok {P : Program} (hT : TOk P T) {W : World} {ρ : Nat → Value} {s : St} {a : Act} {w : World} (hs : RelS W ρ s a w) : ∀ {rs : List ResultVar} {l : List SV}, resL T s rs = some l →
  (rs.mapM (resRun a.tmps)).run P w = .ok (denL ρ l) w ∧ ltL s.m.length l = true
 | [], l, h => by simp only [resL, Option.some.injEq] at h; subst h; exact ⟨by simp [denL], rfl⟩
 | r :: rs, l, h => by
  simp only [resL] at h
  split at h
  ·rename_i v l' hv hl
   injection h with h
   subst h
   obtain ⟨h1, h2⟩ := resC_ok hT hs hv
   obtain ⟨h3, h4⟩ := resL_ok hT hs hl
   refine ⟨?_, by simp [ltL, h2, h4]⟩
   rw [List.mapM_cons, Sem.run_bind, h1]
   simp only [Result.andThen_ok, Sem.run_bind, h3, Sem.run_pure, denL]
  ·cases h
end
theorem calls_of_ix {P : Program} {W : World} {E : Env} {X : Type} (hE : EnvOkW P E W) {f : FuncId} {fn : Func} {args : List SV} {m : Mem} {k : SV → Mem → Option X} {x : X} (hf : P.funcs[f]? = some fn)
  (hl : ∀ c, fn.body = some c → LoopsOk P E c) (hlt : ltL m.length args = true) (h : ixF E fn args m k = some x) {ρ : Nat → Value} {w : World} (hm : RelM W ρ m w) :
  Calls P f (denL ρ args).toArray w fun e w' => ∃ ρ' r m', e = .returned (den ρ' r) ∧ RelM W ρ' m' w' ∧ Agree m.length ρ ρ' ∧ m.length ≤ m'.length ∧ (r.isAny = false → r.lt m'.length = true) ∧ k r m' = some x := by
 have hT := hE.T
 have hend : ∀ ρ' (s' : St) a' w', Agree m.length ρ ρ' → m.length ≤ s'.m.length → RelS W ρ' s' a' w' → fin E.T fn.results.toList k s' = some x →
   a'.defers = [] ∧ ∃ v, (results fn a'.tmps).run P w' = .ok v w' ∧ ∃ ρ'' r m', Ending.returned v = .returned (den ρ'' r) ∧ RelM W ρ'' m' w' ∧ Agree m.length ρ ρ'' ∧ m.length ≤ m'.length ∧ (r.isAny = false → r.lt m'.length = true) ∧ k r m' = some x := by
  intro ρ' s' a' w' hag hle hs' hfin
  refine ⟨hs'.d, ?_⟩
  unfold fin at hfin
  have hrun : ∀ l, resL E.T s' fn.results.toList = some l → (results fn a'.tmps).run P w' = .ok (if h : (denL ρ' l).toArray.size = 1 then (denL ρ' l).toArray[0] else .tuple (denL ρ' l).toArray) w' ∧ ltL s'.m.length l = true := by
   intro l hl
   obtain ⟨h1, h2⟩ := resL_ok hT hs' hl
   refine ⟨?_, h2⟩
   rw [results_eq, Sem.run_bind, Array.mapM_eq_mapM_toList, Sem.run_map, h1]
   rfl
  split at hfin
  ·rename_i v hv
   obtain ⟨h1, h2⟩ := hrun _ hv
   refine ⟨_, h1, ρ', v, s'.m, ?_, hs'.m, hag, hle, fun _ => by simpa [ltL] using h2, hfin⟩
   simp [denL]
  ·rename_i l hne hl
   obtain ⟨h1, h2⟩ := hrun _ hl
   refine ⟨_, h1, ρ', .tup l, s'.m, ?_, hs'.m, hag, hle, fun _ => by simpa [SV.lt] using h2, hfin⟩
   have : l.length ≠ 1 := by
    intro h
    match l, h with
    | [v], _ => exact hne v rfl
   simp [zq4, this, den]
  ·cases hfin
 unfold ixF at h
 split at h
 ·rename_i c hb
  refine calls_of_wp hf hb ?_
  refine (ix_ok hE c _ _ _ _ (hl c hb) h).code (Nat.le_refl _) ρ _ w _ ⟨⟨?_, ?_⟩, hm, rfl⟩ (fun ρ' s' a' w' hag hle hs' hk => hend ρ' s' a' w' hag hle hs' hk) (fun i ρ' s' a' w' _ _ _ hk => by cases hk) (fun ρ' s' a' w' hag hle hs' hk => hend ρ' s' a' w' hag hle hs' hk)
  ·simp
  ·intro i sv hi hs
   rw [List.getElem?_append] at hi
   split at hi
   ·rename_i hil
    rw [ltL_all, List.all_eq_true] at hlt
    refine ⟨hlt sv (List.mem_of_getElem? hi), ?_⟩
    rw [Array.getElem?_append_left (by simpa using hil), List.getElem?_toArray, denL_map, List.getElem?_map, hi]
    rfl
   ·have := List.mem_of_getElem? hi
    simp only [List.mem_replicate] at this
    rw [this.2] at hs
    cases hs
 ·cases h
def opD (o : Oper) : Bool := o.guard.isNone && (match o.op with
 | .load _ _ => true
 | .move _ => true
 | .store _ _ _ => true
 | .call c => (match c.callee with | .builtin .append => true | _ => false)
 | _ => false)
def straightF (fn : Func) : Bool := match fn.body with | some (.region _ ops false) => ops.toList.all opD | _ => false
inductive Seg where
 | fl (k : K)
 | row (k : K) (ty : TypeId)
 /-- A row of elements that have a slice each; of a result: are the slices the caller's own? -/
 | nest (hk ik : K) (ty ity : TypeId) (bo : Bool)
def Seg.T : Seg → Type
 | .fl k => k.T
 | .row k _ => List k.T
 | .nest hk ik _ _ _ => List hk.T × List (List ik.T)
def SegsT : List Seg → Type
 | [] => Unit
 | s :: r => s.T × SegsT r
inductive PS where
 | one (s : Seg)
 | agg (l : List Seg)
 | ref (l : List Seg) (ty : TypeId)
def PS.T : PS → Type
 | .one s => s.T
 | .agg l => SegsT l
 | .ref l _ => SegsT l
def PsT : List PS → Type
 | [] => Unit
 | p :: r => p.T × PsT r
def rdRow (m : Mem) (k : K) : SV → Option (List k.T)
 | .row j => (match m[j]? with | some (.row (.ty k' l) _ _) => if h : k' = k then some (castL h l) else none | _ => none)
 | .inn j i => (match m[j]? with | some (.bag k' ls _ _ _) => if h : k' = k then some (castL h (getL ls i)) else none | _ => none)
 | .v (.slice none 0 0) => some []
 | _ => none
def rdNest (m : Mem) (hk ik : K) : SV → Option (List hk.T × List (List ik.T))
 | .row j => (match m[j]? with
  | some (.row (.nest k l jb) _ _) => (match m[jb]? with | some (.bag k' ls _ _ _) => if h : k = hk ∧ k' = ik then some (castL h.1 l, castLL h.2 ls) else none | _ => none)
  | _ => none)
 | .v (.slice none 0 0) => some ([], [])
 | _ => none
def decSegs (m : Mem) : (l : List Seg) → List SV → Option (SegsT l)
 | [], [] => some ()
 | [], _ :: _ => none
 | .fl k :: r, cs => match k.dec (cs.take k.sz), decSegs m r (cs.drop k.sz) with | some a, some b => some (a, b) | _, _ => none
 | .row _ _ :: _, [] => none
 | .row k _ :: r, c :: cs => match rdRow m k c, decSegs m r cs with | some a, some b => some (a, b) | _, _ => none
 | .nest _ _ _ _ _ :: _, [] => none
 | .nest hk ik _ _ _ :: r, c :: cs => match rdNest m hk ik c, decSegs m r cs with | some a, some b => some (a, b) | _, _ => none
def decFl (k : K) (v : SV) : Option k.T := bif k.isAgg then v.parts.bind k.dec else k.dec [v]
def decSeg (m : Mem) : (s : Seg) → SV → Option s.T
 | .fl k, v => decFl k v
 | .row k _, v => rdRow m k v
 | .nest hk ik _ _ _, v => rdNest m hk ik v
def blkOf (m : Mem) (ty : TypeId) : SV → Option (List SV)
 | .ptr j 0 => (match m[j]? with | some (.blk cs bt _) => if bt == ty && cs.all (fun c => !c.isAny) then some cs else none | _ => none)
 | _ => none
def decP (m : Mem) : (p : PS) → SV → Option p.T
 | .one s, v => decSeg m s v
 | .agg l, v => v.parts.bind (decSegs m l)
 | .ref l ty, v => (blkOf m ty v).bind (decSegs m l)
def decA (m : Mem) : (ps : List PS) → List SV → Option (PsT ps)
 | [], [] => some ()
 | p :: r, v :: vs => match decP m p v, decA m r vs with | some a, some b => some (a, b) | _, _ => none
 | _, _ => none
def encSegs (own : Bool) : (l : List Seg) → SegsT l → Nat → List SV × Mem
 | [], _, _ => ([], [])
 | .fl k :: r, x, n => (k.enc x.1 ++ (encSegs own r x.2 n).1, (encSegs own r x.2 n).2)
 | .row k ty :: r, x, n => (.row n :: (encSegs own r x.2 (n + 1)).1, .row (.ty k x.1) ty own :: (encSegs own r x.2 (n + 1)).2)
 | .nest hk ik ty ity bo :: r, x, n => (.row (n + 1) :: (encSegs own r x.2 (n + 2)).1, .bag ik x.1.2 ity (own && bo) own :: .row (.nest hk x.1.1 n) ty own :: (encSegs own r x.2 (n + 2)).2)
def flV (k : K) (a : k.T) : SV := bif k.isAgg then .agg (k.enc a) else (k.enc a).headD .any
def encSeg (own : Bool) : (s : Seg) → s.T → Nat → SV × Mem
 | .fl k, x, _ => (flV k x, [])
 | .row k ty, x, n => (.row n, [.row (.ty k x) ty own])
 | .nest hk ik ty ity bo, x, n => (.row (n + 1), [.bag ik x.2 ity (own && bo) own, .row (.nest hk x.1 n) ty own])
def encP (own : Bool) : (p : PS) → p.T → Nat → SV × Mem
 | .one s, x, n => encSeg own s x n
 | .agg l, x, n => (.agg (encSegs own l x n).1, (encSegs own l x n).2)
 | .ref l ty, x, n => (.ptr n 0, .blk (encSegs own l x (n + 1)).1 ty own :: (encSegs own l x (n + 1)).2)
def encA (own : Bool) : (ps : List PS) → PsT ps → Nat → List SV × Mem
 | [], _, _ => ([], [])
 | p :: r, x, n => ((encP own p x.1 n).1 :: (encA own r x.2 (n + (encP own p x.1 n).2.length)).1, (encP own p x.1 n).2 ++ (encA own r x.2 (n + (encP own p x.1 n).2.length)).2)
theorem fl_den (ρ ρ' : Nat → Value) {k : K} {v : SV} {a : k.T} (h : decFl k v = some a) : den ρ' (flV k a) = den ρ v ∧ ∀ n, (flV k a).lt n = true := by
 have hd := denL_enc ρ ρ' k a
 have hl : ∀ n, ltL n (k.enc a) = true := fun n => by cases k <;> rfl
 unfold decFl at h
 unfold flV
 cases hk : k.isAgg
 ·rw [hk] at h
  simp only [cond_false] at h ⊢
  obtain ⟨h1, _⟩ := dec_enc k _ a h
  rw [← h1] at hd hl ⊢
  simp only [denL, List.cons.injEq, and_true] at hd
  exact ⟨hd, fun n => by simpa [ltL] using hl n⟩
 ·rw [hk] at h
  simp only [cond_true] at h ⊢
  obtain ⟨l, hv, h⟩ := Option.bind_eq_some_iff.1 h
  obtain ⟨h1, _⟩ := dec_enc k _ a h
  unfold SV.parts at hv
  split at hv
  ·injection hv with hv
   subst hv
   refine ⟨?_, fun n => hl n⟩
   simp only [den]
   rw [hd, h1]
  ·cases hv
def Gives (ρ : Nat → Value) (n : Nat) (vs : List Value) : Prop := ∀ i v, vs[i]? = some v → ρ (n + i) = v
theorem Gives.tail {ρ : Nat → Value} {n : Nat} {v : Value} {vs : List Value} (h : Gives ρ n (v :: vs)) : Gives ρ (n + 1) vs := fun i u hu => by
 have := h (i + 1) u (by simpa using hu)
 rw [show n + 1 + i = n + (i + 1) by omega]
 exact this
theorem Gives.head {ρ : Nat → Value} {n : Nat} {v : Value} {vs : List Value} (h : Gives ρ n (v :: vs)) : ρ n = v := h 0 v rfl
theorem Gives.left {ρ : Nat → Value} {n : Nat} {vs us : List Value} (h : Gives ρ n (vs ++ us)) : Gives ρ n vs := fun i u hu => h i u (by
 have := (List.getElem?_eq_some_iff.1 hu).1
 rw [List.getElem?_append_left this]; exact hu)
theorem Gives.right {ρ : Nat → Value} {n : Nat} {vs us : List Value} (h : Gives ρ n (vs ++ us)) : Gives ρ (n + vs.length) us := fun i u hu => by
 rw [Nat.add_assoc]
 exact h (vs.length + i) u (by rw [List.getElem?_append_right (by omega)]; simpa using hu)
theorem rdRow_ok {W : World} {ρ : Nat → Value} {m : Mem} {w : World} (hm : RelM W ρ m w) {k : K} {v : SV} {l : List k.T} (h : rdRow m k v = some l) : RowIs w (den ρ v) l.length k.sz (l.flatMap fun a => denL ρ (k.enc a)) ∧ (∃ A n c, den ρ v = .slice A n c) := by
 unfold rdRow at h
 split at h
 ·rename_i j
  split at h
  ·rename_i k' l' ty own hj
   split at h
   ·rename_i hk
    subst hk
    injection h with h
    subst h
    have hr := hm.rowIs hj
    have hv := row_val hm hj
    rw [hv]
    obtain ⟨_, A, cap, hρ, _⟩ := id hr
    exact ⟨hr, A, _, cap, hρ⟩
   ·cases h
  ·cases h
 ·rename_i j i
  split at h
  ·rename_i k' ls ty own fr hj
   split at h
   ·rename_i hk
    subst hk
    injection h with h
    subst h
    have hr := hm.inn hj i
    obtain ⟨_, A, cap, hρ, _⟩ := id hr
    exact ⟨hr, A, _, cap, hρ⟩
   ·cases h
  ·cases h
 ·injection h with h
  subst h
  refine ⟨⟨by simp, none, 0, rfl, Nat.le_refl _, by unfold maxLen; omega, fun _ => rfl, fun a ha => by cases ha⟩, none, 0, 0, rfl⟩
 ·cases h
theorem flat_one (ρ : Nat → Value) (k : K) (l : List k.T) : ∀ u ∈ (l.flatMap fun a => denL ρ (k.enc a)), oneC u = true := by
 intro u hu
 simp only [List.mem_flatMap, denL_map, List.mem_map] at hu
 obtain ⟨a, _, c, hc, rfl⟩ := hu
 exact one_den (enc_one k a c hc)
theorem row_obj {W w : World} {ρ ρ' : Nat → Value} {v : Value} {k : K} {l : List k.T} (ty : TypeId) (h : RowIs w v l.length k.sz (l.flatMap fun a => denL ρ (k.enc a))) : ObjIs W w ρ' v (.row (.ty k l) ty false) := by
 have e : (C.ty k l).den ρ' = (l.flatMap fun a => denL ρ (k.enc a)) := by simp only [C.den]; congr 1; funext a; exact denL_enc ρ ρ' k a
 refine ⟨(sz_pos k : 0 < k.sz), fun u hu => ?_, ?_⟩
 ·rw [e] at hu; exact flat_one ρ k l u hu
 ·rw [if_neg (by simp), e]; exact h
theorem enc_lt (k : K) (a : k.T) (n : Nat) : ltL n (k.enc a) = true := by cases k <;> rfl
structure ArgsOk (w : World) (ρ : Nat → Value) (n : Nat) (vals : List Value) (svs : List SV) (os : Mem) (vs : List Value) : Prop where
 len : vs.length = os.length
 den : ∀ ρ', Gives ρ' n vs → denL ρ' svs = vals
 obj : ∀ W ρ', Gives ρ' n vs → ∀ (i : Nat) (o : Obj) (v : Value), os[i]? = some o → vs[i]? = some v → ObjIs W w ρ' v o ∧ o.mutB = false
 lt : ltL (n + os.length) svs = true ∧ ∀ o ∈ os, o.lt (n + os.length) = true
theorem ArgsOk.nil (w : World) (ρ : Nat → Value) (n : Nat) : ArgsOk w ρ n [] [] [] [] := ⟨rfl, fun _ _ => rfl, fun _ _ _ i o v h => by simp at h, rfl, fun o h => by cases h⟩
theorem ArgsOk.app {w : World} {ρ : Nat → Value} {n : Nat} {vals vals' : List Value} {svs svs' : List SV} {os os' : Mem} {vs vs' : List Value} (h : ArgsOk w ρ n vals svs os vs) (h' : ArgsOk w ρ (n + os.length) vals' svs' os' vs') :
  ArgsOk w ρ n (vals ++ vals') (svs ++ svs') (os ++ os') (vs ++ vs') := by
 refine ⟨by simp [h.len, h'.len], fun ρ' hg => ?_, fun W ρ' hg i o v hi hv => ?_, ?_, ?_⟩
 ·rw [denL_map, List.map_append, ← denL_map, ← denL_map, h.den ρ' hg.left, h'.den ρ' (by rw [← h.len]; exact hg.right)]
 ·by_cases hil : i < os.length
  ·rw [List.getElem?_append_left hil] at hi
   rw [List.getElem?_append_left (by rw [h.len]; exact hil)] at hv
   exact h.obj W ρ' hg.left i o v hi hv
  ·rw [List.getElem?_append_right (by omega)] at hi
   rw [List.getElem?_append_right (by rw [h.len]; omega), h.len] at hv
   exact h'.obj W ρ' (by rw [← h.len]; exact hg.right) _ o v hi hv
 ·have h1 := ltL_mono (show n + os.length ≤ n + (os ++ os').length by simp) svs h.lt.1
  have h2 := ltL_mono (show n + os.length + os'.length ≤ n + (os ++ os').length by simp; omega) svs' h'.lt.1
  simp only [ltL_all, List.all_append, Bool.and_eq_true] at *
  exact ⟨h1, h2⟩
 ·intro o ho
  rcases List.mem_append.1 ho with ho | ho
  ·exact Obj.lt_mono (by simp) o (h.lt.2 o ho)
  ·exact Obj.lt_mono (by simp; omega) o (h'.lt.2 o ho)
section
variable {W : World} {ρ : Nat → Value} {m : Mem} {w : World} (hm : RelM W ρ m w)
include hm
theorem nest_arg {hk ik : K} (ty ity : TypeId) (bo : Bool) {c : SV} {a : List hk.T × List (List ik.T)} (h : rdNest m hk ik c = some a) (n : Nat) : ∃ vs, ArgsOk w ρ n [den ρ c] [.row (n + 1)] [.bag ik a.2 ity (false && bo) false, .row (.nest hk a.1 n) ty false] vs := by
 have gen : ∀ (vb v : Value) (l : List hk.T) (ls : List (List ik.T)), den ρ c = v → sliceVal v = v → (∀ (W' : World) (ρ' : Nat → Value), ObjIs W' w ρ' vb (.bag ik ls ity false false)) → RowIs w v l.length (hk.sz + 1) (nestDen ρ hk vb l 0) →
   ∃ vs, ArgsOk w ρ n [den ρ c] [.row (n + 1)] [.bag ik ls ity (false && bo) false, .row (.nest hk l n) ty false] vs := by
  intro vb v l ls hc hs hb hr
  refine ⟨[vb, v], rfl, fun ρ' hg => ?_, fun W' ρ' hg i o u hi hu => ?_, by simp [ltL, SV.lt], fun o ho => ?_⟩
  ·have := hg.tail.head
   simp only [denL, den, this, hs, hc]
  ·have h0 := hg.head
   have h1 := hg.tail.head
   match i with
   | 0 =>
    simp only [List.getElem?_cons_zero, Option.some.injEq] at hi hu
    subst hi hu
    exact ⟨hb W' ρ', rfl⟩
   | 1 =>
    simp only [List.getElem?_cons_succ, List.getElem?_cons_zero, Option.some.injEq] at hi hu
    subst hi hu
    refine ⟨⟨by simp [C.sz], fun u hu => ?_, ?_⟩, rfl⟩
    ·exact nest_one _ _ _ _ _ u hu
    ·rw [if_neg (by simp)]
     simp only [C.den, h0, C.n, C.sz]
     rw [nestDen_enc ρ ρ']
     exact hr
   | i + 2 => simp at hi
  ·simp only [List.mem_cons, List.not_mem_nil, or_false] at ho
   rcases ho with rfl | rfl
   ·rfl
   ·simp [Obj.lt, C.lt]
 unfold rdNest at h
 split at h
 ·rename_i j
  split at h
  ·rename_i k l jb ty' own hj
   split at h
   ·rename_i k' ls ity' own' fr' hjb
    split at h
    ·rename_i hh
     obtain ⟨h1, h2⟩ := hh
     subst h1 h2
     injection h with h
     subst h
     obtain ⟨_, A, cap, hρ, _⟩ := RelM.row hm hj
     refine gen (ρ jb) (ρ j) l ls (row_val hm hj) (by rw [hρ]; rfl) (fun W' ρ' => ?_) ?_
     ·obtain ⟨vs, g1, g2, g3, g4, _⟩ := (hm.obj jb _ hjb).shut
      refine ⟨vs, g1, g2, fun i x l' hi hl => ?_, (fun h => by cases h), fun h => by cases h⟩
      have e : (C.ty k' l').den ρ' = (C.ty k' l').den ρ := by simp only [C.den]; congr 1; funext a; exact denL_enc ρ ρ' k' a
      rw [e]
      exact g3 i x l' hi hl
     ·exact hm.rowIs hj
    ·cases h
   ·cases h
  ·cases h
 ·injection h with h
  subst h
  exact gen (.tuple #[]) (.slice none 0 0) [] [] rfl rfl (fun W' ρ' => ⟨[], rfl, rfl, (fun i x l' h => by simp at h), (fun h => by cases h), fun h => by cases h⟩) ⟨by simp [nestDen], none, 0, rfl, Nat.le_refl _, by unfold maxLen; omega, fun _ => rfl, fun _ h => by cases h⟩
 ·cases h
theorem decSegs_ok : ∀ (l : List Seg) (cs : List SV) (x : SegsT l) (n : Nat), decSegs m l cs = some x → ∃ vs, ArgsOk w ρ n (denL ρ cs) (encSegs false l x n).1 (encSegs false l x n).2 vs
 | [], [], x, n, _ => ⟨[], ArgsOk.nil w ρ n⟩
 | [], _ :: _, x, n, h => by simp [decSegs] at h
 | .fl k :: r, cs, x, n, h => by
  simp only [decSegs] at h
  split at h
  ·rename_i a b ha hb
   injection h with h
   subst h
   obtain ⟨h1, _⟩ := dec_enc k _ a ha
   obtain ⟨vs, hv⟩ := decSegs_ok r _ b n hb
   have h0 : ArgsOk w ρ n (denL ρ (cs.take k.sz)) (k.enc a) [] [] := ⟨rfl, fun ρ' _ => by rw [h1]; exact denL_enc ρ ρ' k a, fun _ _ _ i o v h => by simp at h, enc_lt k a _, fun o h => by cases h⟩
   refine ⟨vs, ?_⟩
   have this := h0.app hv
   have e : denL ρ (cs.take k.sz) ++ denL ρ (cs.drop k.sz) = denL ρ cs := by
    rw [denL_map, denL_map, ← List.map_append, List.take_append_drop, ← denL_map]
   rw [e] at this
   exact this
  ·cases h
 | .row _ _ :: _, [], x, n, h => by simp [decSegs] at h
 | .row k ty :: r, c :: cs, x, n, h => by
  simp only [decSegs] at h
  split at h
  ·rename_i a b ha hb
   injection h with h
   subst h
   obtain ⟨hrow, A, N, cap, hs⟩ := rdRow_ok hm ha
   obtain ⟨vs, hv⟩ := decSegs_ok r _ b (n + 1) hb
   refine ⟨den ρ c :: vs, ?_⟩
   have h0 : ArgsOk w ρ n [den ρ c] [.row n] [.row (.ty k a) ty false] [den ρ c] := by
    refine ⟨rfl, fun ρ' hg => by simp [denL, den, hg.head, hs, sliceVal], fun W' ρ' hg i o v hi hv => ?_, by simp [ltL, SV.lt], fun o ho => by simp at ho; subst ho; rfl⟩
    cases i with
    | zero =>
     simp only [List.getElem?_cons_zero, Option.some.injEq] at hi hv
     subst hi hv
     exact ⟨row_obj ty hrow, rfl⟩
    | succ i => simp at hi
   exact h0.app hv
  ·cases h
 | .nest _ _ _ _ _ :: _, [], x, n, h => by simp [decSegs] at h
 | .nest hk ik ty ity bo :: r, c :: cs, x, n, h => by
  simp only [decSegs] at h
  split at h
  ·rename_i a b ha hb
   injection h with h
   subst h
   obtain ⟨vs0, h0⟩ := nest_arg hm ty ity bo ha n
   obtain ⟨vs, hv⟩ := decSegs_ok r _ b (n + 2) hb
   exact ⟨vs0 ++ vs, h0.app hv⟩
  ·cases h
theorem decP_ok (p : PS) (v : SV) (x : p.T) (n : Nat) (h : decP m p v = some x) : ∃ vs, ArgsOk w ρ n [den ρ v] [(encP false p x n).1] (encP false p x n).2 vs := by
 cases p with
 | one s =>
  cases s with
  | fl k =>
   have hx : decFl k v = some x := h
   refine ⟨[], rfl, fun ρ' _ => ?_, fun _ _ _ i o v h => ?_, ?_, fun o ho => ?_⟩
   ·have := (fl_den ρ ρ' hx).1
    show [den ρ' (flV k x)] = [den ρ v]
    rw [this]
   ·have h : ([] : Mem)[i]? = some o := h
    simp at h
   ·have := (fl_den ρ ρ hx).2 (n + 0)
    show (SV.lt (n + 0) (flV k x) && true) = true
    rw [this]
    rfl
   ·have ho : o ∈ ([] : Mem) := ho
    cases ho
  | row k ty =>
   have hx : rdRow m k v = some x := h
   obtain ⟨hrow, A, N, cap, hs⟩ := rdRow_ok hm hx
   refine ⟨[den ρ v], rfl, fun ρ' hg => by simp [encP, encSeg, denL, den, hg.head, hs, sliceVal], fun W' ρ' hg i o u hi hv => ?_, by simp [encP, encSeg, ltL, SV.lt], fun o ho => ?_⟩
   rotate_left
   ·have ho : o ∈ [Obj.row (.ty k x) ty false] := ho
    simp only [List.mem_singleton] at ho
    subst ho
    rfl
   have hi : [Obj.row (.ty k x) ty false][i]? = some o := hi
   cases i with
   | zero =>
    simp only [List.getElem?_cons_zero, Option.some.injEq] at hi hv
    subst hi hv
    exact ⟨row_obj ty hrow, rfl⟩
   | succ i => simp at hi
  | nest hk ik ty ity bo =>
   have hx : rdNest m hk ik v = some x := h
   exact nest_arg hm ty ity bo hx n
 | agg l =>
  have hx : v.parts.bind (decSegs m l) = some x := h
  obtain ⟨cs, hp, hx⟩ := Option.bind_eq_some_iff.1 hx
  unfold SV.parts at hp
  split at hp
  ·injection hp with hp
   subst hp
   obtain ⟨vs, hv⟩ := decSegs_ok hm _ _ _ n hx
   refine ⟨vs, hv.len, fun ρ' hg => ?_, hv.obj, ?_, hv.lt.2⟩
   ·have := hv.den ρ' hg
    simp only [encP, denL, den, this]
   ·simpa [encP, ltL, SV.lt] using hv.lt.1
  ·cases hp
 | ref l ty =>
  have hx : (blkOf m ty v).bind (decSegs m l) = some x := h
  obtain ⟨cs, hp, hx⟩ := Option.bind_eq_some_iff.1 hx
  unfold blkOf at hp
  split at hp
  ·rename_i j
   split at hp
   ·rename_i cs' bt own hj
    split at hp
    ·rename_i hknown
     simp only [Bool.and_eq_true, beq_iff_eq] at hknown
     obtain ⟨rfl, hknown⟩ := hknown
     injection hp with hp
     subst hp
     obtain ⟨vs, hv⟩ := decSegs_ok hm _ _ _ (n + 1) hx
     obtain ⟨b, arr, hb, hh, hs, hcell⟩ := hm.blk hj
     have hdl : ∀ ρ', Gives ρ' (n + 1) vs → ∀ (i : Nat) (sv : SV), (encSegs false l x (n + 1)).1[i]? = some sv → arr[i]? = some (den ρ' sv) := by
      intro ρ' hg i sv hi
      have h1 := hv.den ρ' hg
      have h2 : (denL ρ' (encSegs false l x (n + 1)).1)[i]? = some (den ρ' sv) := by rw [denL_map, List.getElem?_map, hi]; rfl
      rw [h1, denL_map, List.getElem?_map] at h2
      obtain ⟨c, hc, hce⟩ := Option.map_eq_some_iff.1 h2
      rw [← hce]
      refine hcell i c hc ?_
      simpa using List.all_eq_true.1 hknown c (List.mem_of_getElem? hc)
     have hsl : arr.size = (encSegs false l x (n + 1)).1.length := by
      have h1 := hv.den (fun j => if j < n + 1 then Go.undef else vs.getD (j - (n + 1)) Go.undef) (fun i v hi => by
       show (if n + 1 + i < n + 1 then Go.undef else vs.getD (n + 1 + i - (n + 1)) Go.undef) = v
       rw [if_neg (by omega), show n + 1 + i - (n + 1) = i by omega, List.getD_eq_getElem?_getD, hi]; rfl)
      have h2 := congrArg List.length h1
      rw [zq4, zq4] at h2
      rw [hs, h2]
     have hvp : den ρ (.ptr j 0) = .pointer (some ⟨b, 0, none⟩) := by simp [den, hb, ptrOff, Addr.add]
     have hl1 : n + 1 + (encSegs false l x (n + 1)).2.length = n + ((encSegs false l x (n + 1)).2.length + 1) := by omega
     refine ⟨den ρ (.ptr j 0) :: vs, by simp [encP, hv.len], fun ρ' hg => ?_, fun W' ρ' hg i o u hi hu => ?_, ?_, fun o ho => ?_⟩
     ·have := hg.head
      simp only [encP, denL, den, this, hb]
      simp [ptrOff, Addr.add]
     ·have hi : (Obj.blk (encSegs false l x (n + 1)).1 bt false :: (encSegs false l x (n + 1)).2)[i]? = some o := hi
      cases i with
      | zero =>
       simp only [List.getElem?_cons_zero, Option.some.injEq] at hi hu
       subst hi hu
       exact ⟨⟨b, arr, hvp, fun h => Bool.noConfusion h, hh, hsl, fun i sv hi _ => hdl ρ' hg.tail i sv hi⟩, rfl⟩
      | succ i =>
       exact hv.obj W' ρ' hg.tail i o u (by simpa using hi) (by simpa using hu)
     ·have : (n : Nat) < n + ((encSegs false l x (n + 1)).2.length + 1) := by omega
      simp [encP, ltL, SV.lt]
     ·have ho : o ∈ (Obj.blk (encSegs false l x (n + 1)).1 bt false :: (encSegs false l x (n + 1)).2) := ho
      have hlen : n + (encP false (PS.ref l bt) x n).2.length = n + 1 + (encSegs false l x (n + 1)).2.length := by simp [encP]; omega
      rw [hlen]
      rcases List.mem_cons.1 ho with rfl | ho
      ·have := hv.lt.1
       simp only [Obj.lt, List.all_eq_true, Bool.or_eq_true]
       rw [ltL_all, List.all_eq_true] at this
       exact fun c hc => .inr (this c hc)
      ·exact hv.lt.2 o ho
    ·cases hp
   ·cases hp
  ·cases hp
end
end Go.Ma
namespace Go.Ma
open Go Go.RowKit
section
variable {W : World} {ρ : Nat → Value} {m : Mem} {w : World} (hm : RelM W ρ m w)
include hm
theorem decA_ok : ∀ (ps : List PS) (vs : List SV) (x : PsT ps) (n : Nat), decA m ps vs = some x → ∃ us, ArgsOk w ρ n (denL ρ vs) (encA false ps x n).1 (encA false ps x n).2 us
 | [], [], x, n, _ => ⟨[], ArgsOk.nil w ρ n⟩
 | [], _ :: _, x, n, h => by simp [decA] at h
 | _ :: _, [], x, n, h => by simp [decA] at h
 | p :: r, v :: vs, x, n, h => by
  simp only [decA] at h
  split at h
  ·rename_i a b ha hb
   injection h with h
   subst h
   obtain ⟨us, hu⟩ := decP_ok hm p v a n ha
   obtain ⟨us', hu'⟩ := decA_ok r vs b (n + (encP false p a n).2.length) hb
   exact ⟨us ++ us', hu.app hu'⟩
  ·cases h
end
def nameOf (us : List Value) (j : Nat) : Value := us.getD j Go.undef
theorem gives_nameOf (us : List Value) : Gives (nameOf us) 0 us := fun i v h => by simp [nameOf, List.getD_eq_getElem?_getD, h]
theorem ArgsOk.rel {w : World} {ρ : Nat → Value} {vals : List Value} {svs : List SV} {os : Mem} {us : List Value} (h : ArgsOk w ρ 0 vals svs os us) : RelM w (nameOf us) os w := by
 refine ⟨Below.refl _ _, fun j o hj => ?_, fun i j o o' _ hi _ hmu => ?_, fun j o hj => by have := h.lt.2 o (List.mem_of_getElem? hj); simpa using this⟩
 ·obtain ⟨v, hv⟩ : ∃ v, us[j]? = some v := by
   have hl := (List.getElem?_eq_some_iff.1 hj).1
   exact ⟨us[j]'(by rw [h.len]; exact hl), List.getElem?_eq_getElem _⟩
  have := (h.obj w (nameOf us) (gives_nameOf us) j o v hj hv).1
  rw [show nameOf us j = v by simp [nameOf, List.getD_eq_getElem?_getD, hv]]
  exact this
 ·obtain ⟨v, hv⟩ : ∃ v, us[i]? = some v := by
   have hl := (List.getElem?_eq_some_iff.1 hi).1
   exact ⟨us[i]'(by rw [h.len]; exact hl), List.getElem?_eq_getElem _⟩
  have := (h.obj w (nameOf us) (gives_nameOf us) i o v hi hv).2
  rw [this] at hmu
  cases hmu
def ownRowOf (m : Mem) (k : K) (ty : TypeId) : SV → Option (List k.T)
 | .row j => (match m[j]? with | some (.row (.ty k' l) ty' true) => if h : k' = k then (if ty' == ty then some (castL h l) else none) else none | _ => none)
 | .v (.slice none 0 0) => some []
 | _ => none
def rowNo : SV → List Nat
 | .row j => [j]
 | _ => []
def ownNestOf (m : Mem) (hk ik : K) (ty ity : TypeId) (bo : Bool) : SV → Option ((List hk.T × List (List ik.T)) × List Nat)
 | .row j => (match m[j]? with
  | some (.row (.nest k l jb) ty' true) => (match m[jb]? with
   | some (.bag k' ls ity' own fr) => if h : k = hk ∧ k' = ik then (if ty' == ty && ity' == ity && (own || (!bo && fr)) then some ((castL h.1 l, castLL h.2 ls), [jb, j]) else none) else none
   | _ => none)
  | _ => none)
 | .v (.slice none 0 0) => some (([], []), [])
 | _ => none
def resSegs (m : Mem) : (l : List Seg) → List SV → Option (SegsT l × List Nat)
 | [], [] => some ((), [])
 | [], _ :: _ => none
 | .fl k :: r, cs => match k.dec (cs.take k.sz), resSegs m r (cs.drop k.sz) with | some a, some (b, js) => some ((a, b), js) | _, _ => none
 | .row _ _ :: _, [] => none
 | .row k ty :: r, c :: cs => match ownRowOf m k ty c, resSegs m r cs with | some a, some (b, js) => some ((a, b), rowNo c ++ js) | _, _ => none
 | .nest _ _ _ _ _ :: _, [] => none
 | .nest hk ik ty ity bo :: r, c :: cs => match ownNestOf m hk ik ty ity bo c, resSegs m r cs with | some (a, js), some (b, js') => some ((a, b), js ++ js') | _, _ => none
def resP (m : Mem) : (p : PS) → SV → Option (p.T × List Nat)
 | .one (.fl k), v => (decFl k v).map fun a => (a, [])
 | .one (.row k ty), v => (ownRowOf m k ty v).map fun a => (a, rowNo v)
 | .one (.nest hk ik ty ity bo), v => ownNestOf m hk ik ty ity bo v
 | .agg l, v => v.parts.bind (resSegs m l)
 | .ref _ _, _ => none
def resA (m : Mem) : (ps : List PS) → List SV → Option (PsT ps × List Nat)
 | [], [] => some ((), [])
 | p :: r, v :: vs => match resP m p v, resA m r vs with | some (a, js), some (b, js') => some ((a, b), js ++ js') | _, _ => none
 | _, _ => none
def tupOf : SV → Option (List SV)
 | .tup l => some l
 | _ => none
def distinct : List Nat → Bool
 | [] => true
 | x :: r => !r.contains x && distinct r
def resR (ps : List PS) (v : SV) (m : Mem) : Option (PsT ps) :=
 match (bif ps.length == 1 then resA m ps [v] else (tupOf v).bind (resA m ps)) with
 | some (a, js) => bif distinct js then some a else none
 | none => none
def encR (ps : List PS) (y : PsT ps) (n : Nat) : SV := bif ps.length == 1 then ((encA true ps y n).1).headD .any else .tup (encA true ps y n).1
def SrcIs (ρ : Nat → Value) (m : Mem) (v : Value) (o : Option Obj) : Option Nat → Prop
 | none => valBlocks v = []
 | some j => v = ρ j ∧ ∃ ob, m[j]? = some ob ∧ ob.live' = true ∧ ((o.map Obj.mutB).getD false = true → ob.mutB = true)
structure ResOk (w : World) (base : Nat) (ρ : Nat → Value) (m : Mem) (n : Nat) (vals : List Value) (svs : List SV) (os : Mem) (us : List Value) (js : List Nat) : Prop where
 len : us.length = os.length
 den : ∀ ρ', Gives ρ' n us → denL ρ' svs = vals
 obj : ∀ (i : Nat) (o : Obj) (v : Value), os[i]? = some o → us[i]? = some v → (∀ W ρ', W.heap.size ≤ base → Gives ρ' n us → ObjIs W w ρ' v o) ∧ (∀ b, b ∈ valBlocks v → base ≤ b) ∧ o.lt (n + os.length) = true
 src : ∃ idx : List (Option Nat), idx.length = us.length ∧ idx.filterMap id = js ∧ ∀ (i : Nat) (v : Value) (q : Option Nat), us[i]? = some v → idx[i]? = some q → SrcIs ρ m v os[i]? q
 lt : ltL (n + os.length) svs = true
theorem distinct_idx : ∀ {idx : List (Option Nat)}, distinct (idx.filterMap id) = true → ∀ {i j a b : Nat}, i ≠ j → idx[i]? = some (some a) → idx[j]? = some (some b) → a ≠ b
 | [], _, i, j, a, b, _, h, _ => by simp at h
 | none :: r, hd, i, j, a, b, hij, hi, hj => by
  match i, j with
  | 0, _ => simp at hi
  | _ + 1, 0 => simp at hj
  | i + 1, j + 1 => exact distinct_idx (idx := r) (i := i) (j := j) (by simpa using hd) (by omega) (by simpa using hi) (by simpa using hj)
 | some c :: r, hd, i, j, a, b, hij, hi, hj => by
  have hd : distinct (c :: r.filterMap id) = true := by simpa using hd
  simp only [distinct, Bool.and_eq_true, Bool.not_eq_true', List.contains_eq_mem, decide_eq_false_iff_not] at hd
  have hin : ∀ {k x : Nat}, r[k]? = some (some x) → x ∈ r.filterMap id := fun {k x} h => List.mem_filterMap.2 ⟨some x, List.mem_of_getElem? h, rfl⟩
  match i, j with
  | 0, 0 => exact absurd rfl hij
  | 0, j + 1 =>
   simp only [List.getElem?_cons_zero, Option.some.injEq] at hi
   subst hi
   rintro rfl
   exact hd.1 (hin (by simpa using hj))
  | i + 1, 0 =>
   simp only [List.getElem?_cons_zero, Option.some.injEq] at hj
   subst hj
   rintro rfl
   exact hd.1 (hin (by simpa using hi))
  | i + 1, j + 1 => exact distinct_idx (idx := r) (i := i) (j := j) hd.2 (by omega) (by simpa using hi) (by simpa using hj)
theorem ResOk.nil (w : World) (base : Nat) (ρ : Nat → Value) (m : Mem) (n : Nat) : ResOk w base ρ m n [] [] [] [] [] :=
 ⟨rfl, fun _ _ => rfl, fun i o v h => by simp at h, ⟨[], rfl, rfl, fun i v q h => by simp at h⟩, rfl⟩
theorem ResOk.app {w : World} {base : Nat} {ρ : Nat → Value} {m : Mem} {n : Nat} {vals vals' : List Value} {svs svs' : List SV} {os os' : Mem} {us us' : List Value} {js js' : List Nat}
  (h : ResOk w base ρ m n vals svs os us js) (h' : ResOk w base ρ m (n + os.length) vals' svs' os' us' js') : ResOk w base ρ m n (vals ++ vals') (svs ++ svs') (os ++ os') (us ++ us') (js ++ js') := by
 refine ⟨by simp [h.len, h'.len], fun ρ' hg => ?_, fun i o v hi hv => ?_, ?_, ?_⟩
 ·rw [denL_map, List.map_append, ← denL_map, ← denL_map, h.den ρ' hg.left, h'.den ρ' (by rw [← h.len]; exact hg.right)]
 ·by_cases hil : i < os.length
  ·rw [List.getElem?_append_left hil] at hi
   rw [List.getElem?_append_left (by rw [h.len]; exact hil)] at hv
   obtain ⟨h1, h2, h3⟩ := h.obj i o v hi hv
   exact ⟨fun W ρ' hW hg => h1 W ρ' hW hg.left, h2, Obj.lt_mono (by simp) o h3⟩
  ·rw [List.getElem?_append_right (by omega)] at hi
   rw [List.getElem?_append_right (by rw [h.len]; omega), h.len] at hv
   obtain ⟨h1, h2, h3⟩ := h'.obj _ o v hi hv
   exact ⟨fun W ρ' hW hg => h1 W ρ' hW (by rw [← h.len]; exact hg.right), h2, Obj.lt_mono (by simp; omega) o h3⟩
 ·obtain ⟨idx, i1, i2, i3⟩ := h.src
  obtain ⟨idx', i1', i2', i3'⟩ := h'.src
  refine ⟨idx ++ idx', by simp [i1, i1'], by rw [List.filterMap_append, i2, i2'], fun i v q hv hq => ?_⟩
  by_cases hil : i < us.length
  ·rw [List.getElem?_append_left hil] at hv
   rw [List.getElem?_append_left (by rw [i1]; exact hil)] at hq
   rw [List.getElem?_append_left (by rw [← h.len]; exact hil)]
   exact i3 i v q hv hq
  ·rw [List.getElem?_append_right (by omega)] at hv
   rw [List.getElem?_append_right (by rw [i1]; omega), i1] at hq
   rw [List.getElem?_append_right (by rw [← h.len]; omega), ← h.len]
   exact i3' _ v q hv hq
 ·have h1 := ltL_mono (show n + os.length ≤ n + (os ++ os').length by simp) svs h.lt
  have h2 := ltL_mono (show n + os.length + os'.length ≤ n + (os ++ os').length by simp; omega) svs' h'.lt
  simp only [ltL_all, List.all_append, Bool.and_eq_true] at *
  exact ⟨h1, h2⟩
theorem ResOk.apart {W w : World} {base : Nat} {ρ : Nat → Value} {m : Mem} {n : Nat} {vals : List Value} {svs : List SV} {os : Mem} {us : List Value} {js : List Nat} (h : ResOk w base ρ m n vals svs os us js) (hm : RelM W ρ m w) (hd : distinct js = true)
  {i j : Nat} {v v' : Value} {o o' : Obj} (hij : i ≠ j) (hi : us[i]? = some v) (hj : us[j]? = some v') (ho : os[i]? = some o) (ho' : os[j]? = some o') (hmu : o.mutB = true) : ∀ b, b ∈ valBlocks v → b ∉ o'.blocks v' := by
 intro b hb hb'
 obtain ⟨idx, i1, i2, i3⟩ := h.src
 have hil : i < idx.length := by rw [i1]; exact (List.getElem?_eq_some_iff.1 hi).1
 have hjl : j < idx.length := by rw [i1]; exact (List.getElem?_eq_some_iff.1 hj).1
 have hq := i3 i v _ hi (List.getElem?_eq_getElem hil)
 have hq' := i3 j v' _ hj (List.getElem?_eq_getElem hjl)
 cases hqi : idx[i] with
 | none => rw [hqi] at hq; rw [show valBlocks v = [] from hq] at hb; cases hb
 | some p =>
  cases hqj : idx[j] with
  | none => rw [hqj] at hq'; have hb' := blocks_sub hb'; rw [show valBlocks v' = [] from hq'] at hb'; cases hb'
  | some p' =>
   rw [hqi] at hq
   rw [hqj] at hq'
   obtain ⟨rfl, ob, a1, a2, a3⟩ := hq
   obtain ⟨rfl, ob', a1', a2', a3'⟩ := hq'
   have hne := distinct_idx (idx := idx) (by rw [i2]; exact hd) hij (by rw [List.getElem?_eq_getElem hil, hqi]) (by rw [List.getElem?_eq_getElem hjl, hqj])
   exact hm.sep p p' ob ob' hne a1 a1' (a3 (by rw [ho]; exact hmu)) (live'_iff.2 a2') b hb (by
    cases hmo : o'.mutB
    ·exact rd_blocks (by simpa [Obj.blocks, hmo] using hb')
    ·rw [blocks_mut (a3' (by rw [ho']; exact hmo))]; exact blocks_sub hb')
section
variable {W : World} {ρ : Nat → Value} {m : Mem} {w : World} (hm : RelM W ρ m w)
include hm
theorem ownRow_res {k : K} {ty : TypeId} {v : SV} {l : List k.T} (h : ownRowOf m k ty v = some l) (n : Nat) :
  ResOk w W.heap.size ρ m n [den ρ v] [.row n] [.row (.ty k l) ty true] [den ρ v] (rowNo v) := by
 have one : ∀ {u : Value} {q : Option Nat}, SrcIs ρ m u (some (.row (.ty k l) ty true)) q → q.toList = rowNo v → den ρ v = u → sliceVal u = u → (∀ W' : World, W'.heap.size ≤ W.heap.size → w.ownsRow W'.heap.size ty k.sz u l.length ((C.ty k l).den ρ)) → (∀ b, b ∈ valBlocks u → W.heap.size ≤ b) → ResOk w W.heap.size ρ m n [den ρ v] [.row n] [.row (.ty k l) ty true] [den ρ v] (rowNo v) := by
  intro u q hsrc hq hu hs hown hblk
  refine ⟨rfl, fun ρ' hg => by simp [denL, den, hg.head, hu, hs], fun i o x hi hx => ?_, ⟨[q], rfl, by rw [← hq]; cases q <;> rfl, fun i x q' hx hq' => ?_⟩, by simp [ltL, SV.lt]⟩
  ·cases i with
   | succ i => simp at hi
   | zero =>
    simp only [List.getElem?_cons_zero, Option.some.injEq] at hi hx
    subst hi hx
    refine ⟨fun W' ρ' hW _ => ⟨(sz_pos k : 0 < k.sz), ?_, ?_⟩, by rw [hu]; exact hblk, rfl⟩
    ·exact flat_one ρ' k l
    ·rw [if_pos rfl, hu]
     have e : (C.ty k l).den ρ' = (C.ty k l).den ρ := by simp only [C.den]; congr 1; funext a; exact denL_enc ρ ρ' k a
     rw [e]
     exact hown W' hW
  ·cases i with
   | succ i => simp at hx
   | zero =>
    simp only [List.getElem?_cons_zero, Option.some.injEq] at hx hq'
    subst hx hq'
    rw [hu]
    exact hsrc
 unfold ownRowOf at h
 split at h
 ·rename_i j
  split at h
  ·rename_i k' l' ty' hj
   split at h
   ·rename_i hk
    subst hk
    split at h
    ·rename_i hty
     simp only [beq_iff_eq] at hty
     subst hty
     injection h with h
     subst h
     obtain ⟨g1, g2, g3⟩ := hm.obj j _ hj
     simp only [if_true] at g3
     have hv := row_val hm hj
     have hsl : sliceVal (ρ j) = ρ j := by
      obtain ⟨_, A, cap, hρ, _⟩ := RelM.row hm hj
      rw [hρ]; rfl
     refine one (u := ρ j) (q := some j) ⟨rfl, _, hj, rfl, fun _ => rfl⟩ rfl hv hsl (fun W' hW => ⟨g3.1, g3.2.imp id ?_⟩) (fun b hb => ?_)
     ·rintro ⟨g, cap, cur, h1, h2, h3⟩
      exact ⟨g, cap, cur, h1, by omega, h3⟩
     ·exact (ownsRow_lt g3 ((blocks_one (fun vs e => by rw [e] at hsl; simp [sliceVal] at hsl)).1 hb)).1
    ·cases h
   ·cases h
  ·cases h
 ·injection h with h
  subst h
  exact one (u := .slice none 0 0) (q := none) rfl rfl rfl rfl (fun W' _ => World.ownsRow_nil w _ ty k.sz) (fun b hb => by simp [valBlocks, valBlock] at hb)
 ·cases h
theorem ownNest_res {hk ik : K} {ty ity : TypeId} {bo : Bool} {v : SV} {a : List hk.T × List (List ik.T)} {js : List Nat} (h : ownNestOf m hk ik ty ity bo v = some (a, js)) (n : Nat) :
  ∃ us, ResOk w W.heap.size ρ m n [den ρ v] [.row (n + 1)] [.bag ik a.2 ity (true && bo) true, .row (.nest hk a.1 n) ty true] us js := by
 have gen : ∀ (vb u : Value) (l : List hk.T) (ls : List (List ik.T)) (q q' : Option Nat), SrcIs ρ m vb (some (.bag ik ls ity bo true)) q → SrcIs ρ m u (some (.row (.nest hk l n) ty true)) q' → q.toList ++ q'.toList = js → den ρ v = u → sliceVal u = u →
   (∀ (W' : World) (ρ' : Nat → Value), W'.heap.size ≤ W.heap.size → ObjIs W' w ρ' vb (.bag ik ls ity bo true)) → (∀ b, b ∈ valBlocks vb → W.heap.size ≤ b) → (∀ W' : World, W'.heap.size ≤ W.heap.size → w.ownsRow W'.heap.size ty (hk.sz + 1) u l.length (nestDen ρ hk vb l 0)) → (∀ b, b ∈ valBlocks u → W.heap.size ≤ b) →
   ∃ us, ResOk w W.heap.size ρ m n [den ρ v] [.row (n + 1)] [.bag ik ls ity (true && bo) true, .row (.nest hk l n) ty true] us js := by
  intro vb u l ls q q' h1 h2 hq hu hs hb hbb hr hrb
  refine ⟨[vb, u], rfl, fun ρ' hg => ?_, fun i o x hi hx => ?_, ⟨[q, q'], rfl, by rw [← hq]; cases q <;> cases q' <;> rfl, fun i x p hx hp => ?_⟩, by simp [ltL, SV.lt]⟩
  ·have := hg.tail.head
   simp only [denL, den, this, hs, hu]
  ·match i with
   | 0 =>
    simp only [List.getElem?_cons_zero, Option.some.injEq] at hi hx
    subst hi hx
    exact ⟨fun W' ρ' hW _ => by rw [Bool.true_and]; exact hb W' ρ' hW, hbb, rfl⟩
   | 1 =>
    simp only [List.getElem?_cons_succ, List.getElem?_cons_zero, Option.some.injEq] at hi hx
    subst hi hx
    refine ⟨fun W' ρ' hW hg => ⟨by simp [C.sz], fun u hu => nest_one _ _ _ _ _ u hu, ?_⟩, hrb, by simp [Obj.lt, C.lt]⟩
    rw [if_pos rfl]
    simp only [C.den, hg.head, C.n, C.sz]
    rw [nestDen_enc ρ ρ']
    exact hr W' hW
   | i + 2 => simp at hi
  ·match i with
   | 0 =>
    simp only [List.getElem?_cons_zero, Option.some.injEq] at hx hp
    subst hx hp
    rw [Bool.true_and]
    exact h1
   | 1 =>
    simp only [List.getElem?_cons_succ, List.getElem?_cons_zero, Option.some.injEq] at hx hp
    subst hx hp
    exact h2
   | i + 2 => simp at hx
 unfold ownNestOf at h
 split at h
 ·rename_i j
  split at h
  ·rename_i k l jb ty' hj
   split at h
   ·rename_i k' ls ity' own fr hjb
    split at h
    ·rename_i hh
     obtain ⟨h1, h2⟩ := hh
     subst h1 h2
     split at h
     ·rename_i hc
      simp only [Bool.and_eq_true, beq_iff_eq, Bool.or_eq_true, Bool.not_eq_true'] at hc
      obtain ⟨⟨rfl, rfl⟩, hof⟩ := hc
      simp only [Option.some.injEq, Prod.mk.injEq] at h
      obtain ⟨rfl, rfl⟩ := h
      obtain ⟨g1, g2, g3⟩ := hm.obj j _ hj
      simp only [if_true] at g3
      have hv := row_val hm hj
      have hsl : sliceVal (ρ j) = ρ j := by
       obtain ⟨_, A, cap, hρ, _⟩ := RelM.row hm hj
       rw [hρ]; rfl
      have hbo : bo = true → own = true := fun hb => by rcases hof with h | ⟨h, _⟩; exact h; rw [hb] at h; cases h
      obtain ⟨vs, b1, b2, b3, b4, b5⟩ := hm.obj jb _ hjb
      obtain ⟨vs', c1, c2, c3, _, c5⟩ := (hm.obj jb _ hjb).shut
      have hfresh : ∀ x ∈ vs, ∀ b, valBlock x = some b → W.heap.size ≤ b := by
       rw [b1] at c1
       injection c1 with c1
       have : vs = vs' := by simpa using c1
       subst this
       exact c5 (by rcases hof with h | ⟨_, h⟩ <;> simp [h])
      have hvs : vs' = vs := by
       rw [b1] at c1
       injection c1 with c1
       exact (by simpa using c1 : vs = vs').symm
      subst hvs
      refine gen (ρ jb) (ρ j) l ls (some jb) (some j) ⟨rfl, _, hjb, rfl, fun h => hbo h⟩ ⟨rfl, _, hj, rfl, fun _ => rfl⟩ rfl hv hsl (fun W' ρ' hW => ?_) (fun b hb => ?_) (fun W' hW => ⟨g3.1, g3.2.imp id ?_⟩) (fun b hb => ?_)
      ·have e : ∀ l : List k'.T, (C.ty k' l).den ρ' = (C.ty k' l).den ρ := fun l => by simp only [C.den]; congr 1; funext a; exact denL_enc ρ ρ' k' a
       refine ⟨vs', b1, b2, fun i x l' hi hl => ?_, fun hb => b4 (hbo hb), fun _ x hx b hb => by have := hfresh x hx b hb; omega⟩
       rw [e]
       cases hb : bo
       ·have := c3 i x l' hi hl
        simpa using this
       ·have := b3 i x l' hi hl
        rw [hbo hb] at this
        simp only [if_true] at this ⊢
        refine ⟨this.1, this.2.imp id ?_⟩
        rintro ⟨g, cap, cur, h1, h2, h3⟩
        exact ⟨g, cap, cur, h1, by omega, h3⟩
      ·rw [b1] at hb
       simp only [valBlocks, List.mem_filterMap] at hb
       obtain ⟨x, hx, hxb⟩ := hb
       exact hfresh x (by simpa using hx) b hxb
      ·rintro ⟨g, cap, cur, h1, h2, h3⟩
       exact ⟨g, cap, cur, h1, by omega, h3⟩
      ·exact (ownsRow_lt g3 ((blocks_one (fun vs e => by rw [e] at hsl; simp [sliceVal] at hsl)).1 hb)).1
     ·cases h
    ·cases h
   ·cases h
  ·cases h
 ·simp only [Option.some.injEq, Prod.mk.injEq] at h
  obtain ⟨rfl, rfl⟩ := h
  exact gen (.tuple #[]) (.slice none 0 0) [] [] none none (by simp [SrcIs, valBlocks]) (by simp [SrcIs, valBlocks, valBlock]) rfl rfl rfl (fun W' ρ' _ => ⟨[], rfl, rfl, (fun i x l' h => by simp at h), (fun _ i j x y b _ h => by simp at h), fun _ x h => by cases h⟩) (fun b hb => by simp [valBlocks] at hb) (fun W' _ => World.ownsRow_nil w _ ty _) (fun b hb => by simp [valBlocks, valBlock] at hb)
 ·cases h
theorem fl_res {k : K} {vals : List Value} {a : k.T} (h : ∀ ρ', denL ρ' (k.enc a) = vals) (n : Nat) : ResOk w W.heap.size ρ m n vals (k.enc a) [] [] [] :=
 have _hs := hm
 ⟨rfl, fun ρ' _ => h ρ', fun i o v h => by simp at h, ⟨[], rfl, rfl, fun i v q h => by simp at h⟩, enc_lt k a _⟩
theorem resSegs_ok : ∀ (l : List Seg) (cs : List SV) (x : SegsT l) (js : List Nat) (n : Nat), resSegs m l cs = some (x, js) → ∃ us, ResOk w W.heap.size ρ m n (denL ρ cs) (encSegs true l x n).1 (encSegs true l x n).2 us js
 | [], [], x, js, n, h => by simp only [resSegs, Option.some.injEq, Prod.mk.injEq] at h; obtain ⟨_, rfl⟩ := h; exact ⟨[], ResOk.nil w _ ρ _ n⟩
 | [], _ :: _, x, js, n, h => by simp [resSegs] at h
 | .fl k :: r, cs, x, js, n, h => by
  simp only [resSegs] at h
  split at h
  ·rename_i a b js' ha hb
   simp only [Option.some.injEq, Prod.mk.injEq] at h
   obtain ⟨rfl, rfl⟩ := h
   obtain ⟨h1, _⟩ := dec_enc k _ a ha
   obtain ⟨us, hu⟩ := resSegs_ok r _ b _ n hb
   have h0 : ResOk w W.heap.size ρ m n (denL ρ (cs.take k.sz)) (k.enc a) [] [] [] := fl_res hm (fun ρ' => by rw [h1]; exact denL_enc ρ ρ' k a) n
   have this := h0.app hu
   have e : denL ρ (cs.take k.sz) ++ denL ρ (cs.drop k.sz) = denL ρ cs := by
    rw [denL_map, denL_map, ← List.map_append, List.take_append_drop, ← denL_map]
   rw [e] at this
   exact ⟨us, this⟩
  ·cases h
 | .row _ _ :: _, [], x, js, n, h => by simp [resSegs] at h
 | .row k ty :: r, c :: cs, x, js, n, h => by
  simp only [resSegs] at h
  split at h
  ·rename_i a b js' ha hb
   simp only [Option.some.injEq, Prod.mk.injEq] at h
   obtain ⟨rfl, rfl⟩ := h
   have h0 := ownRow_res hm ha n
   obtain ⟨us, hu⟩ := resSegs_ok r _ b _ (n + 1) hb
   exact ⟨_, h0.app hu⟩
  ·cases h
 | .nest _ _ _ _ _ :: _, [], x, js, n, h => by simp [resSegs] at h
 | .nest hk ik ty ity bo :: r, c :: cs, x, js, n, h => by
  simp only [resSegs] at h
  split at h
  ·rename_i a js1 b js2 ha hb
   simp only [Option.some.injEq, Prod.mk.injEq] at h
   obtain ⟨rfl, rfl⟩ := h
   obtain ⟨us0, h0⟩ := ownNest_res hm ha n
   obtain ⟨us, hu⟩ := resSegs_ok r _ b _ (n + 2) hb
   exact ⟨_, h0.app hu⟩
  ·cases h
theorem resP_ok (p : PS) (v : SV) (x : p.T) (js : List Nat) (n : Nat) (h : resP m p v = some (x, js)) : ∃ us, ResOk w W.heap.size ρ m n [den ρ v] [(encP true p x n).1] (encP true p x n).2 us js := by
 cases p with
 | one s =>
  cases s with
  | fl k =>
   have hx : (decFl k v).map (fun a => (a, ([] : List Nat))) = some (x, js) := h
   obtain ⟨a, ha, hx⟩ := Option.map_eq_some_iff.1 hx
   cases hx
   refine ⟨[], rfl, fun ρ' _ => ?_, fun i o v h => ?_, ⟨[], rfl, rfl, fun i v q h => by simp at h⟩, ?_⟩
   ·have := (fl_den ρ ρ' ha).1
    show [den ρ' (flV k x)] = [den ρ v]
    rw [this]
   ·have h : ([] : Mem)[i]? = some o := h
    simp at h
   ·have := (fl_den ρ ρ ha).2 (n + 0)
    show (SV.lt (n + 0) (flV k x) && true) = true
    rw [this]
    rfl
  | row k ty =>
   have hx : (ownRowOf m k ty v).map (fun a => (a, rowNo v)) = some (x, js) := h
   obtain ⟨a, ha, hx⟩ := Option.map_eq_some_iff.1 hx
   cases hx
   exact ⟨_, ownRow_res hm ha n⟩
  | nest hk ik ty ity bo =>
   have hx : ownNestOf m hk ik ty ity bo v = some (x, js) := h
   exact ownNest_res hm hx n
 | agg l =>
  have hx : v.parts.bind (resSegs m l) = some (x, js) := h
  obtain ⟨cs, hp, hx⟩ := Option.bind_eq_some_iff.1 hx
  unfold SV.parts at hp
  split at hp
  ·injection hp with hp
   subst hp
   obtain ⟨us, hv⟩ := resSegs_ok hm _ _ _ _ n hx
   refine ⟨us, hv.len, fun ρ' hg => ?_, hv.obj, hv.src, ?_⟩
   ·have := hv.den ρ' hg
    simp only [encP, denL, den, this]
   ·simpa [encP, ltL, SV.lt] using hv.lt
  ·cases hp
 | ref l ty =>
  have hx : (none : Option (SegsT l × List Nat)) = some (x, js) := h
  cases hx
theorem resA_ok : ∀ (ps : List PS) (vs : List SV) (x : PsT ps) (js : List Nat) (n : Nat), resA m ps vs = some (x, js) → ∃ us, ResOk w W.heap.size ρ m n (denL ρ vs) (encA true ps x n).1 (encA true ps x n).2 us js
 | [], [], x, js, n, h => by simp only [resA, Option.some.injEq, Prod.mk.injEq] at h; obtain ⟨_, rfl⟩ := h; exact ⟨[], ResOk.nil w _ ρ _ n⟩
 | [], _ :: _, x, js, n, h => by simp [resA] at h
 | _ :: _, [], x, js, n, h => by simp [resA] at h
 | p :: r, v :: vs, x, js, n, h => by
  simp only [resA] at h
  split at h
  ·rename_i a js1 b js2 ha hb
   simp only [Option.some.injEq, Prod.mk.injEq] at h
   obtain ⟨rfl, rfl⟩ := h
   obtain ⟨us, hu⟩ := resP_ok hm p v a js1 n ha
   obtain ⟨us', hu'⟩ := resA_ok r vs b js2 (n + (encP true p a n).2.length) hb
   exact ⟨us ++ us', hu.app hu'⟩
  ·cases h
end
theorem RelM.pushL {W : World} {ρ : Nat → Value} {m : Mem} {w w' : World} (h : RelM W ρ m w) (hb : Below w.heap.size w w') {os : Mem} {us : List Value} (hlen : us.length = os.length)
  (ho : ∀ (i : Nat) (o : Obj) (v : Value), os[i]? = some o → us[i]? = some v → (∀ ρ', Gives ρ' m.length us → ObjIs W w' ρ' v o) ∧ (∀ b, b ∈ valBlocks v → w.heap.size ≤ b) ∧ o.lt (m.length + os.length) = true)
  (hd : ∀ (i j : Nat) (v v' : Value) (o o' : Obj), i ≠ j → us[i]? = some v → us[j]? = some v' → os[i]? = some o → os[j]? = some o' → o.mutB = true → ∀ b, b ∈ valBlocks v → b ∉ o'.blocks v') :
  ∃ ρ', Agree m.length ρ ρ' ∧ Gives ρ' m.length us ∧ RelM W ρ' (m ++ os) w' := by
 obtain ⟨ρ', hρ'⟩ : ∃ ρ' : Nat → Value, ρ' = fun j => if j < m.length then ρ j else us.getD (j - m.length) Go.undef := ⟨_, rfl⟩
 have ha : Agree m.length ρ ρ' := fun j hj => by rw [hρ']; simp [hj]
 have hg : Gives ρ' m.length us := fun i v hi => by
  rw [hρ']
  show (if m.length + i < m.length then _ else us.getD (m.length + i - m.length) Go.undef) = v
  rw [if_neg (by omega), show m.length + i - m.length = i by omega, List.getD_eq_getElem?_getD, hi]
  rfl
 have hk := h.later hb
 have key : ∀ {k : Nat} {o : Obj}, (m ++ os)[k]? = some o → (k < m.length ∧ m[k]? = some o) ∨ (∃ i v, k = m.length + i ∧ os[i]? = some o ∧ us[i]? = some v ∧ ρ' k = v) := by
  intro k o hk
  by_cases hlt : k < m.length
  ·rw [List.getElem?_append_left hlt] at hk; exact .inl ⟨hlt, hk⟩
  ·rw [List.getElem?_append_right (by omega)] at hk
   have hl := (List.getElem?_eq_some_iff.1 hk).1
   have hv : us[k - m.length]? = some (us[k - m.length]'(by rw [hlen]; exact hl)) := List.getElem?_eq_getElem _
   have := hg _ _ hv
   rw [show m.length + (k - m.length) = k by omega] at this
   exact .inr ⟨k - m.length, _, by omega, hk, hv, this⟩
 refine ⟨ρ', ha, hg, hk.below, fun j o hj => ?_, fun i j o1 o2 hij hi hj hmu hdd b hbi hbj => ?_, fun j o hj => ?_⟩
 ·rcases key hj with ⟨hlt, hj⟩ | ⟨i, v, rfl, hi, hv, hr⟩
  ·rw [ha j hlt]
   exact (hk.obj j o hj).agree ha (h.lt j o hj)
  ·rw [hr]
   exact (ho i o v hi hv).1 ρ' hg
 ·rcases key hi with ⟨hil, hi⟩ | ⟨i', v, rfl, hi, hv, hr⟩ <;> rcases key hj with ⟨hjl, hj⟩ | ⟨j', v', rfl, hj, hv', hr'⟩
  ·rw [ha i hil] at hbi
   rw [ha j hjl] at hbj
   exact h.sep i j o1 o2 hij hi hj hmu hdd b hbi hbj
  ·rw [ha i hil] at hbi
   rw [hr'] at hbj
   have h1 := (ho j' o2 v' hj hv').2.1 b (blocks_sub hbj)
   have h2 : b < w.heap.size := ObjIs.lt_heap (by rw [blocks_mut hmu]; exact hbi) (mutB_live hmu) (h.obj i o1 hi)
   omega
  ·rw [ha j hjl] at hbj
   rw [hr] at hbi
   have h1 := (ho i' o1 v hi hv).2.1 b hbi
   have h2 : b < w.heap.size := ObjIs.lt_heap hbj hdd (h.obj j o2 hj)
   omega
  ·rw [hr] at hbi
   rw [hr'] at hbj
   exact hd i' j' v v' o1 o2 (by rintro rfl; exact hij rfl) hv hv' hi hj hmu b hbi hbj
 ·rcases key hj with ⟨hlt, hj⟩ | ⟨i, v, rfl, hi, hv, hr⟩
  ·exact Obj.lt_mono (by simp) o (h.lt j o hj)
  ·rw [List.length_append]; exact (ho i o v hi hv).2.2
def flatP : PS → Bool
 | .one (.fl _) => true
 | _ => false
def conTr (ps rs : List PS) (t : PsT ps → Option (PsT rs)) : Tr := fun _ args m k =>
 (decA m ps args).bind fun x => (t x).bind fun y => k (encR rs y m.length) (m ++ (encA true rs y m.length).2)
def con (ps rs : List PS) (t : PsT ps → Option (PsT rs)) : Con := { tr := conTr ps rs t, q := rs.all flatP, law := true }
theorem flat_os : ∀ (rs : List PS) (y : PsT rs) (n : Nat), rs.all flatP = true → (encA true rs y n).2 = []
 | [], _, _, _ => rfl
 | p :: r, y, n, h => by
  simp only [List.all_cons, Bool.and_eq_true] at h
  have h0 : (encP true p y.1 n).2 = [] := by
   cases p with
   | one s => cases s with
    | fl k => rfl
    | row k ty => simp [flatP] at h
    | nest _ _ _ _ _ => simp [flatP] at h
   | agg l => simp [flatP] at h
   | ref l ty => simp [flatP] at h
  simp only [encA, h0, List.nil_append, List.length_nil]
  exact flat_os r y.2 _ h.2
theorem flV_lt (k : K) (a : k.T) (n : Nat) : (flV k a).lt n = true := by cases k <;> rfl
theorem flat_lt : ∀ (rs : List PS) (y : PsT rs) (n k : Nat), rs.all flatP = true → ltL k (encA true rs y n).1 = true
 | [], _, _, _, _ => rfl
 | p :: r, y, n, k, h => by
  simp only [List.all_cons, Bool.and_eq_true] at h
  have h0 : (encP true p y.1 n).1.lt k = true := by
   cases p with
   | one s => cases s with
    | fl k' => exact flV_lt k' y.1 k
    | row k ty => simp [flatP] at h
    | nest _ _ _ _ _ => simp [flatP] at h
   | agg l => simp [flatP] at h
   | ref l ty => simp [flatP] at h
  simp only [encA, ltL, h0, Bool.true_and]
  exact flat_lt r y.2 _ k h.2
theorem encR_lt (rs : List PS) (y : PsT rs) (n : Nat) (h : rs.all flatP = true) : (encR rs y n).lt 0 = true := by
 have h0 := flat_lt rs y n 0 h
 unfold encR
 cases rs.length == 1
 ·simpa only [cond_false, SV.lt] using h0
 ·simp only [cond_true]
  cases hx : (encA true rs y n).1 with
  | nil => rfl
  | cons c r =>
   rw [hx] at h0
   simp only [ltL, Bool.and_eq_true] at h0
   exact h0.1
theorem RelM.back {W : World} {ρ ρ' : Nat → Value} {m : Mem} {w : World} (h : RelM W ρ' m w) (ha : Agree m.length ρ ρ') (hlt : ∀ (j : Nat) (o : Obj), m[j]? = some o → o.lt m.length = true) : RelM W ρ m w := by
 have hl : ∀ {j : Nat} {o : Obj}, m[j]? = some o → j < m.length := fun hj => (List.getElem?_eq_some_iff.1 hj).1
 refine ⟨h.below, fun j o hj => ?_, fun i j o o' hij hi hj hmu hd b hb hb' => ?_, hlt⟩
 ·have := h.obj j o hj
  rw [ha j (hl hj)] at this
  have hag : Agree m.length ρ' ρ := fun i hi => (ha i hi).symm
  exact this.agree hag (hlt j o hj)
 ·rw [← ha i (hl hi)] at hb
  rw [← ha j (hl hj)] at hb'
  exact h.sep i j o o' hij hi hj hmu hd b hb hb'
theorem encR_den {rs : List PS} {y : PsT rs} {n : Nat} {ρ' : Nat → Value} {vals : List Value} {v : Value} (hlen : (encA true rs y n).1.length = rs.length) (h : denL ρ' (encA true rs y n).1 = vals) (hv : v = if rs.length = 1 then vals.headD Go.undef else .tuple vals.toArray) : den ρ' (encR rs y n) = v := by
 unfold encR
 rw [hv]
 by_cases h1 : rs.length = 1
 ·rw [if_pos h1, show (rs.length == 1) = true by simpa using h1]
  simp only [cond_true]
  rw [h1] at hlen
  match hx : (encA true rs y n).1, hlen with
  | [c], _ =>
   rw [hx] at h
   rw [← h]
   rfl
 ·rw [if_neg h1, show (rs.length == 1) = false by simpa using h1]
  simp only [cond_false, den, h]
theorem encA_len (own : Bool) : ∀ (ps : List PS) (x : PsT ps) (n : Nat), (encA own ps x n).1.length = ps.length
 | [], _, _ => rfl
 | p :: r, x, n => by simp [encA, encA_len own r]
theorem resR_ok {W : World} {ρ : Nat → Value} {m : Mem} {w : World} (hm : RelM W ρ m w) {rs : List PS} {v : SV} {y : PsT rs} (h : resR rs v m = some y) (n : Nat) :
  ∃ vals us js, ResOk w W.heap.size ρ m n vals (encA true rs y n).1 (encA true rs y n).2 us js ∧ distinct js = true ∧ den ρ v = (if rs.length = 1 then vals.headD Go.undef else .tuple vals.toArray) := by
 unfold resR at h
 by_cases h1 : rs.length = 1
 ·rw [show (rs.length == 1) = true by simpa using h1] at h
  simp only [cond_true] at h
  split at h
  ·rename_i a js ha
   cases hd : distinct js
   ·rw [hd] at h; cases h
   ·rw [hd] at h
    injection h with h
    subst h
    obtain ⟨us, hu⟩ := resA_ok hm rs [v] a js n ha
    exact ⟨_, us, js, hu, hd, by rw [if_pos h1]; rfl⟩
  ·cases h
 ·rw [show (rs.length == 1) = false by simpa using h1] at h
  simp only [cond_false] at h
  split at h
  ·rename_i a js ha
   obtain ⟨l, hl, ha⟩ := Option.bind_eq_some_iff.1 ha
   cases hd : distinct js
   ·rw [hd] at h; cases h
   ·rw [hd] at h
    injection h with h
    subst h
    unfold tupOf at hl
    split at hl
    ·injection hl with hl
     subst hl
     obtain ⟨us, hu⟩ := resA_ok hm rs _ a js n ha
     exact ⟨_, us, js, hu, hd, by rw [if_neg h1]; rfl⟩
    ·cases hl
  ·cases h
theorem con_of {P : Program} {f : FuncId} (ps rs : List PS) (t : PsT ps → Option (PsT rs))
  (hc : ∀ (x : PsT ps) (y : PsT rs), t x = some y → ∀ (ρ : Nat → Value) (us vals : List Value) (w : World), Glob P w → ArgsOk w ρ 0 vals (encA false ps x 0).1 (encA false ps x 0).2 us →
   Calls P f vals.toArray w fun e w' => ∃ ρc r m', e = .returned (den ρc r) ∧ RelM w ρc m' w' ∧ resR rs r m' = some y) : TrOk P f (con ps rs t) := by
 -- a call, from the caller's world on
 have main : ∀ {W : World}, Glob P W → ∀ {args : List SV} {m : Mem} {x : PsT ps} {y : PsT rs}, decA m ps args = some x → t x = some y → ∀ ρ w, RelM W ρ m w →
   Calls P f (denL ρ args).toArray w fun e w' => ∃ ρ', e = .returned (den ρ' (encR rs y m.length)) ∧ RelM W ρ' (m ++ (encA true rs y m.length).2) w' ∧ Agree m.length ρ ρ' ∧ (encR rs y m.length).lt (m ++ (encA true rs y m.length).2).length = true := by
  intro W hG args m x y hx hy ρ w hm
  obtain ⟨us, hu⟩ := decA_ok hm ps args x 0 hx
  refine (hc x y hy ρ us _ w (hG.mono hm.below) hu).mono ?_
  rintro e w' ⟨ρc, r, m', rfl, hm', hres⟩
  obtain ⟨vals, vs, js, hr, hd, hv⟩ := resR_ok hm' hres m.length
  obtain ⟨ρ', hag, hg, hpush⟩ := hm.pushL hm'.below hr.len (fun i o v hi hv => by
    obtain ⟨h1, h2, h3⟩ := hr.obj i o v hi hv
    exact ⟨fun ρ' hg => h1 W ρ' hm.below.size hg, h2, h3⟩) (fun i j v v' o o' hij hi hj ho ho' hmu => hr.apart hm' hd hij hi hj ho ho' hmu)
  refine ⟨ρ', ?_, hpush, hag, ?_⟩
  ·rw [encR_den (encA_len true rs y _) (hr.den ρ' hg) hv]
  ·have hlt := hr.lt
   rw [List.length_append]
   unfold encR
   by_cases h1 : rs.length = 1
   ·rw [show (rs.length == 1) = true by simpa using h1]
    simp only [cond_true]
    have hlen := encA_len true rs y m.length
    rw [h1] at hlen
    match hx : (encA true rs y m.length).1, hlen with
    | [c], _ =>
     rw [hx] at hlt
     simpa [ltL] using hlt
   ·rw [show (rs.length == 1) = false by simpa using h1]
    simpa only [cond_false, SV.lt] using hlt
 refine ⟨fun W hG X args m k x hk hany => ⟨fun hlt ρ w hm => ?_⟩, fun hq W hG X args m k x hk hany => ⟨fun hlt => ?_⟩, fun _ X args m k x hk => ?_⟩
 ·simp only [con, conTr] at hk
  obtain ⟨a, ha, hk⟩ := Option.bind_eq_some_iff.1 hk
  obtain ⟨y, hy, hk⟩ := Option.bind_eq_some_iff.1 hk
  refine (main hG ha hy ρ w hm).mono ?_
  rintro e w' ⟨ρ', rfl, hm', hag, hl'⟩
  exact ⟨ρ', _, _, rfl, hm', hag, by simp, fun _ => hl', hk⟩
 ·simp only [con, conTr] at hk hq
  obtain ⟨a, ha, hk⟩ := Option.bind_eq_some_iff.1 hk
  obtain ⟨y, hy, hk⟩ := Option.bind_eq_some_iff.1 hk
  have hos := flat_os rs y m.length hq
  have hcl : (encR rs y m.length).lt 0 = true := encR_lt rs y _ hq
  refine ⟨encR rs y m.length, lt_mono (Nat.zero_le _) _ hcl, fun ρ w hm => (main hG ha hy ρ w hm).mono ?_, hk⟩
  rintro e w' ⟨ρ', rfl, hm', hag, hl'⟩
  rw [hos, List.append_nil] at hm'
  refine ⟨?_, ?_⟩
  ·rw [den_agree (n := 0) (fun i hi => absurd hi (by omega)) _ hcl]
  ·exact hm'.back hag hm.lt
 ·simp only [con, conTr] at hk ⊢
  obtain ⟨a, ha, hk⟩ := Option.bind_eq_some_iff.1 hk
  obtain ⟨y, hy, hk⟩ := Option.bind_eq_some_iff.1 hk
  exact ⟨_, _, by rw [ha, Option.bind_some, hy, Option.bind_some], hk, fun _ => ⟨_, rfl⟩⟩
theorem con_ok {P : Program} {E : Env} (hE : EnvOk P E) {f : FuncId} {fn : Func} (hf : P.funcs[f]? = some fn) (hl : ∀ c, fn.body = some c → LoopsOk P E c) (ps rs : List PS) (t : PsT ps → Option (PsT rs))
  (h : ∀ x, ixF E fn (encA false ps x 0).1 (encA false ps x 0).2 (resR rs) = t x) : TrOk P f (con ps rs t) := by
 refine con_of ps rs t fun x y hy ρ us vals w hG hu => ?_
 have hrel := hu.rel
 have hden := hu.den _ (gives_nameOf us)
 have hcall := calls_of_ix (m := (encA false ps x 0).2) (W := w) ⟨hE, hG⟩ hf hl (by have := hu.lt.1; simpa using this) ((h x).trans hy) hrel
 rw [hden] at hcall
 refine hcall.mono ?_
 rintro e w' ⟨ρc, r, m', rfl, hm', _, _, _, hres⟩
 exact ⟨ρc, r, m', rfl, hm', hres⟩
theorem con_none (P : Program) (f : FuncId) (ps rs : List PS) : TrOk P f (con ps rs fun _ => none) := con_of ps rs _ fun _ _ hy => by cases hy
def RECN : Nat := 300
end Go.Ma
namespace Go.Ma
open Go Go.RowKit
def i64In (x : Int) : Prop := -9223372036854775808 ≤ x ∧ x < 9223372036854775808
def u64In (x : Int) : Prop := 0 ≤ x ∧ x < 18446744073709551616
def u8In (x : Int) : Prop := 0 ≤ x ∧ x < 256
def strIn (s : ByteArray) : Prop := s.size ≤ maxLen
def Ad.In (a : Ad) : Prop := u64In a.hi ∧ u64In a.lo
def Pf.In (p : Pf) : Prop := p.ad.In ∧ i64In p.bits
def Ls.In (x : Ls) : Prop := x.ad.In ∧ strIn x.who ∧ i64In x.upto
def Oq.In (o : Oq) : Prop := i64In o.kind ∧ o.pf.In ∧ o.ad.In ∧ strIn o.who ∧ i64In o.of_ ∧ i64In o.n
def En.In (e : En) : Prop := i64In e.num ∧ i64In e.epoch ∧ e.op.In
def Ev.In (e : Ev) : Prop := i64In e.kind ∧ i64In e.who ∧ i64In e.n ∧ e.op.In
def K.In : (k : K) → k.T → Prop
 | .int => i64In | .u64 => u64In | .u8 => u8In | .bool => fun _ => True | .str => strIn
 | .addr => Ad.In | .pfx => Pf.In | .lease => Ls.In | .op => Oq.In | .entry => En.In | .event => Ev.In
def rowIn (k : K) (l : List k.T) : Prop := l.length ≤ maxLen ∧ ∀ a ∈ l, k.In a
def Seg.In : (s : Seg) → s.T → Prop
 | .fl k, x => k.In x
 | .row k _, l => rowIn k l
 | .nest hk ik _ _ _, x => rowIn hk x.1 ∧ x.2.length = x.1.length ∧ ∀ l ∈ x.2, rowIn ik l
def SegsIn : (l : List Seg) → SegsT l → Prop
 | [], _ => True
 | s :: r, x => s.In x.1 ∧ SegsIn r x.2
def PS.In : (p : PS) → p.T → Prop
 | .one s, x => s.In x
 | .agg l, x => SegsIn l x
 | .ref l _, x => SegsIn l x
def PsIn : (ps : List PS) → PsT ps → Prop
 | [], _ => True
 | p :: r, x => p.In x.1 ∧ PsIn r x.2
def K.Le (M : Nat) : (k : K) → k.T → Prop
 | .str, (s : ByteArray) => s.size ≤ M
 | _, _ => True
def Seg.Le (M : Nat) : (s : Seg) → s.T → Prop
 | .fl k, x => k.Le M x
 | .row _ _, l => l.length ≤ M
 | .nest _ _ _ _ _, x => x.1.length ≤ M ∧ ∀ l ∈ x.2, l.length ≤ M
def SegsLe (M : Nat) : (l : List Seg) → SegsT l → Prop
 | [], _ => True
 | s :: r, x => s.Le M x.1 ∧ SegsLe M r x.2
def PS.Le (M : Nat) : (p : PS) → p.T → Prop
 | .one s, x => s.Le M x
 | .agg l, x => SegsLe M l x
 | .ref l _, x => SegsLe M l x
def PsLe (M : Nat) : (ps : List PS) → PsT ps → Prop
 | [], _ => True
 | p :: r, x => p.Le M x.1 ∧ PsLe M r x.2
inductive Lf where
 | bool | int (k : IntKind) | str | row (e : TypeId)
 deriving DecidableEq
def adL : List Lf := [.bool, .int .u64, .int .u64]
def pfL : List Lf := adL ++ [.int .i64]
def opL : List Lf := [.int .i64] ++ pfL ++ adL ++ [.str, .int .i64, .int .i64]
def K.leaves : K → List Lf
 | .int => [.int .i64] | .u64 => [.int .u64] | .u8 => [.int .u8] | .bool => [.bool] | .str => [.str]
 | .addr => adL | .pfx => pfL | .lease => adL ++ [.str, .int .i64] | .op => opL
 | .entry => [.int .i64, .int .i64] ++ opL | .event => [.int .i64, .int .i64, .int .i64] ++ opL
def shapeFs (P : Program) (rec : TypeId → Option (List Lf)) : List Field → Nat → Option (List Lf)
 | [], _ => some []
 | f :: r, off =>
  match rec f.type, shapeFs P rec r (off + P.cellsOf f.type) with
  | some l, some l' => if f.offset = off ∧ P.cellsOf f.type = l.length then some (l ++ l') else none
  | _, _ => none
def shapeOf (P : Program) : Nat → TypeId → Option (List Lf)
 | 0, _ => none
 | n + 1, t =>
  match P.underlying t with
  | some .bool => some [.bool]
  | some (.int k) => some [.int k]
  | some .string => some [.str]
  | some (.slice e) => some [.row e]
  | some (.struct fs) => match shapeFs P (shapeOf P n) fs.toList 0 with | some l => if P.cellsOf t = l.length then some l else none | none => none
  | _ => none
section
variable {H : Type} {enc : TypeId × Value → H} {P : Program} {W : World} {M : Nat}
structure Small (M : Nat) (S : DataW H → Prop) : Prop where
 slice : ∀ es sp, es.length ≤ maxLen → S (.slice es sp) → es.length ≤ M
 agg : ∀ ps p, p ∈ ps → S (.agg ps) → S p
 elem : ∀ es sp p, p ∈ es → S (.slice es sp) → S p
 str : ∀ s, s.length ≤ maxLen → S (.lit (.string s)) → s.length ≤ M
def LfIs (M : Nat) (enc : TypeId × Value → H) (P : Program) (W : World) : Lf → Value → Prop
 | .bool, v => ∃ b, v = .bool b
 | .int k, v => ∃ n, v = .int k n ∧ (Lit.int k n).wf = true
 | .str, v => ∃ s, v = .string s ∧ s.size ≤ maxLen ∧ s.size ≤ M
 | .row e, v => v = .slice none 0 0 ∨ ∃ a len cap, v = .slice (some a) len cap ∧ len ≤ cap ∧ cap ≤ maxLen ∧ len ≤ M ∧ ∀ i, i < cap → ∃ cs n y, W.cells? 0 (a.add (i * P.cellsOf e)) (P.cellsOf e) = some cs ∧ DataW.trod enc P W 0 (fun _ => true) true n e cs = some y ∧ (i < len → ∃ Sx : DataW H → Prop, Small M Sx ∧ Sx y.1)
def LfsIs (M : Nat) (enc : TypeId × Value → H) (P : Program) (W : World) : List Lf → List Value → Prop
 | [], [] => True
 | l :: ls, v :: vs => LfIs M enc P W l v ∧ LfsIs M enc P W ls vs
 | _, _ => False
variable {S : DataW H → Prop} (hS : Small M S)
theorem small_true : Small (H := H) maxLen (fun _ => True) := ⟨fun _ _ h _ => h, fun _ _ _ _ => trivial, fun _ _ _ _ _ => trivial, fun _ h _ => h⟩
theorem LfsIs.app : ∀ {l l' : List Lf} {vs vs' : List Value}, LfsIs M enc P W l vs → LfsIs M enc P W l' vs' → LfsIs M enc P W (l ++ l') (vs ++ vs')
 | [], _, [], _, _, h' => h'
 | [], _, _ :: _, _, h, _ => h.elim
 | _ :: _, _, [], _, h, _ => h.elim
 | _ :: _, _, _ :: _, _, h, h' => ⟨h.1, LfsIs.app h.2 h'⟩
theorem shapeFs_ok {n m : Nat} {cs : List Value}
  (ih : ∀ (t : TypeId) (ls : List Lf) (cs : List Value) x, shapeOf P n t = some ls → DataW.trod enc P W 0 (fun _ => true) true m t cs = some x → S x.1 → LfsIs M enc P W ls cs) :
  ∀ (fl : List Field) (off : Nat) (l : List Lf), (∀ f ∈ fl, ∃ y, DataW.trod enc P W 0 (fun _ => true) true m f.type ((cs.drop f.offset).take (P.cellsOf f.type)) = some y ∧ S y.1) →
   shapeFs P (shapeOf P n) fl off = some l → LfsIs M enc P W l ((cs.drop off).take l.length)
 | [], _, l, _, h => by
  simp only [shapeFs, Option.some.injEq] at h
  subst h
  simp [LfsIs]
 | f :: r, off, l, hf, h => by
  simp only [shapeFs] at h
  split at h
  ·rename_i l1 l2 h1 h2
   split at h
   ·rename_i hc
    obtain ⟨hoff, hlen⟩ := hc
    injection h with h
    subst h
    obtain ⟨y, hy, hsy⟩ := hf f (by simp)
    have a1 := ih _ _ _ _ h1 hy hsy
    have a2 := shapeFs_ok ih r _ l2 (fun g hg => hf g (by simp [hg])) h2
    rw [hoff, hlen] at a1
    rw [hlen, ← List.drop_drop] at a2
    rw [List.length_append, List.take_add]
    exact a1.app a2
   ·cases h
  ·cases h
include hS in
theorem shape_ok : ∀ (n m : Nat) (t : TypeId) (ls : List Lf) (cs : List Value) x, shapeOf P n t = some ls → DataW.trod enc P W 0 (fun _ => true) true m t cs = some x → S x.1 → LfsIs M enc P W ls cs
 | 0, _, _, _, _, _, h, _, _ => by simp [shapeOf] at h
 | n + 1, m, t, ls, cs, x, h, hx, hsx => by
  unfold shapeOf at h
  split at h
  ·rename_i hu
   injection h with h
   subst h
   cases m with
   | zero => simp [DataW.trod] at hx
   | succ m =>
    unfold DataW.trod at hx
    rw [hu] at hx
    split at hx <;> simp_all [LfsIs, LfIs]
  ·rename_i k hu
   injection h with h
   subst h
   cases m with
   | zero => simp [DataW.trod] at hx
   | succ m =>
    unfold DataW.trod at hx
    rw [hu] at hx
    split at hx <;> simp_all [LfsIs, LfIs]
  ·rename_i hu
   injection h with h
   subst h
   cases m with
   | zero => simp [DataW.trod] at hx
   | succ m =>
    have hstr := fun s => hS.str s
    unfold DataW.trod at hx
    rw [hu] at hx
    split at hx <;> simp_all [LfsIs, LfIs]
    obtain ⟨hx1, rfl⟩ := hx
    have := hstr _ (by simpa using hx1) hsx
    simpa using this
  ·rename_i e hu
   injection h with h
   subst h
   rcases Go.Deep.open_slice hu hx with ⟨rfl, _⟩ | ⟨a, len, cap, k, q, D, Pl, rfl, _, hl, hm, hk, hxe, hi⟩
   ·exact ⟨.inl rfl, trivial⟩
   ·have hlen : len ≤ M := by
     rw [hxe] at hsx
     have := hS.slice _ _ (by simp; omega) hsx
     simpa using this
    refine ⟨.inr ⟨a, len, cap, rfl, hl, hm, hlen, fun i hil => ?_⟩, trivial⟩
    obtain ⟨cs', h1, h2⟩ := hi i (by simp at hk; omega)
    refine ⟨cs', q, _, h1, h2, fun hil2 => ⟨S, hS, ?_⟩⟩
    rw [hxe] at hsx
    exact hS.elem _ _ _ (List.mem_map.2 ⟨i, List.mem_range.2 hil2, rfl⟩) hsx
  ·rename_i fs hu
   split at h
   ·rename_i l hl
    split at h
    ·rename_i hlen
     injection h with h
     subst h
     obtain ⟨xs, q, rfl, hxe, hc, hxs, hf⟩ := DataW.trod_struct hu hx
     rw [hxe] at hsx
     have := shapeFs_ok (enc := enc) (W := W) (cs := cs) (fun t ls cs x => shape_ok n q t ls cs x) fs.toList 0 l (fun f hfm => by
      obtain ⟨i, hi⟩ := List.mem_iff_getElem?.1 hfm
      have hi' : fs[i]? = some f := by simpa using hi
      have := hf i f hi'
      have hil : i < xs.length := by rw [hxs]; exact (Array.getElem?_eq_some_iff.1 hi').1
      exact ⟨_, this.trans (List.getElem?_eq_getElem hil), hS.agg _ _ (List.mem_map.2 ⟨_, List.getElem_mem hil, rfl⟩) hsx⟩) hl
     rw [List.drop_zero, List.take_of_length_le (by omega)] at this
     exact this
    ·cases h
   ·cases h
  ·cases h
theorem u64_wf {n : Int} (h : (Lit.int .u64 n).wf = true) : u64In n := by
 simp only [Lit.wf, IntKind.min, IntKind.max, IntKind.signed, IntKind.bits, Bool.and_eq_true, decide_eq_true_eq] at h
 unfold u64In
 obtain ⟨h1, h2⟩ := h
 have h1' : (0 : Int) ≤ n := by simpa using h1
 have h2' : n ≤ 18446744073709551615 := by simpa using h2
 omega
theorem i64_wf {n : Int} (h : (Lit.int .i64 n).wf = true) : i64In n := by
 simp only [Lit.wf, IntKind.min, IntKind.max, IntKind.signed, IntKind.bits, Bool.and_eq_true, decide_eq_true_eq] at h
 unfold i64In
 obtain ⟨h1, h2⟩ := h
 have h1' : (-9223372036854775808 : Int) ≤ n := by simpa using h1
 have h2' : n ≤ 9223372036854775807 := by simpa using h2
 omega
theorem u8_wf {n : Int} (h : (Lit.int .u8 n).wf = true) : u8In n := by
 simp only [Lit.wf, IntKind.min, IntKind.max, IntKind.signed, IntKind.bits, Bool.and_eq_true, decide_eq_true_eq] at h
 unfold u8In
 obtain ⟨h1, h2⟩ := h
 have h1' : (0 : Int) ≤ n := by simpa using h1
 have h2' : n ≤ 255 := by simpa using h2
 omega
theorem lfs_nil {cs : List Value} (h : LfsIs M enc P W [] cs) : cs = [] := by
 cases cs with
 | nil => rfl
 | cons c r => exact h.elim
theorem lfs_cons {l : Lf} {ls : List Lf} {cs : List Value} (h : LfsIs M enc P W (l :: ls) cs) : ∃ c r, cs = c :: r ∧ LfIs M enc P W l c ∧ LfsIs M enc P W ls r := by
 cases cs with
 | nil => exact h.elim
 | cons c r => exact ⟨c, r, rfl, h.1, h.2⟩
theorem ad_read {ls : List Lf} {cs : List Value} (h : LfsIs M enc P W (adL ++ ls) cs) : ∃ (a : Ad) (r : List Value), cs = [.bool a.v6, .int .u64 a.hi, .int .u64 a.lo] ++ r ∧ a.In ∧ LfsIs M enc P W ls r := by
 obtain ⟨c, r, rfl, ⟨b, rfl⟩, h_1⟩ := lfs_cons h
 obtain ⟨c, r, rfl, ⟨x, rfl, hx⟩, h_2⟩ := lfs_cons h_1
 obtain ⟨c, r, rfl, ⟨y, rfl, hy⟩, h_3⟩ := lfs_cons h_2
 exact ⟨⟨b, x, y⟩, r, rfl, ⟨u64_wf hx, u64_wf hy⟩, h_3⟩
theorem int_read {ls : List Lf} {cs : List Value} (h : LfsIs M enc P W (.int .i64 :: ls) cs) : ∃ (n : Int) (r : List Value), cs = [.int .i64 n] ++ r ∧ i64In n ∧ LfsIs M enc P W ls r := by
 obtain ⟨c, r, rfl, ⟨x, rfl, hx⟩, h_1⟩ := lfs_cons h
 exact ⟨x, r, rfl, i64_wf hx, h_1⟩
theorem str_read {ls : List Lf} {cs : List Value} (h : LfsIs M enc P W (.str :: ls) cs) : ∃ (n : ByteArray) (r : List Value), cs = [.string n] ++ r ∧ strIn n ∧ LfsIs M enc P W ls r := by
 obtain ⟨c, r, rfl, ⟨x, rfl, hx⟩, h_1⟩ := lfs_cons h
 exact ⟨x, r, rfl, hx.1, h_1⟩
theorem pf_read {ls : List Lf} {cs : List Value} (h : LfsIs M enc P W (pfL ++ ls) cs) : ∃ (a : Pf) (r : List Value), cs = [.bool a.ad.v6, .int .u64 a.ad.hi, .int .u64 a.ad.lo, .int .i64 a.bits] ++ r ∧ a.In ∧ LfsIs M enc P W ls r := by
 obtain ⟨a, r, rfl, ha, h⟩ := ad_read (ls := .int .i64 :: ls) h
 obtain ⟨n, r, rfl, hn, h_1⟩ := int_read h
 exact ⟨⟨a, n⟩, r, rfl, ⟨ha, hn⟩, h_1⟩
theorem op_read {ls : List Lf} {cs : List Value} (h : LfsIs M enc P W (opL ++ ls) cs) : ∃ (o : Oq) (r : List Value), (∀ ρ, cs = denL ρ (K.enc .op o) ++ r) ∧ o.In ∧ LfsIs M enc P W ls r := by
 obtain ⟨k, r, rfl, hk, h⟩ := int_read (ls := pfL ++ (adL ++ (.str :: .int .i64 :: .int .i64 :: ls))) h
 obtain ⟨p, r, rfl, hp, h_1⟩ := pf_read h
 obtain ⟨a, r, rfl, ha, h_2⟩ := ad_read h_1
 obtain ⟨s, r, rfl, hs, h_3⟩ := str_read h_2
 obtain ⟨x, r, rfl, hx, h_4⟩ := int_read h_3
 obtain ⟨y, r, rfl, hy, h_5⟩ := int_read h_4
 exact ⟨⟨k, p, a, s, x, y⟩, r, fun ρ => rfl, ⟨hk, hp, ha, hs, hx, hy⟩, h_5⟩
theorem k_read (k : K) {ls : List Lf} {cs : List Value} (h : LfsIs M enc P W (k.leaves ++ ls) cs) : ∃ (a : k.T) (r : List Value), (∀ ρ, cs = denL ρ (k.enc a) ++ r) ∧ k.In a ∧ LfsIs M enc P W ls r ∧ k.Le M a := by
 cases k with
 | int => obtain ⟨n, r, rfl, hn, h'⟩ := int_read h; exact ⟨n, r, fun ρ => rfl, hn, h', trivial⟩
 | u64 => obtain ⟨c, r, rfl, ⟨x, rfl, hx⟩, h'⟩ := lfs_cons h; exact ⟨x, r, fun ρ => rfl, u64_wf hx, h', trivial⟩
 | u8 => obtain ⟨c, r, rfl, ⟨x, rfl, hx⟩, h'⟩ := lfs_cons h; exact ⟨x, r, fun ρ => rfl, u8_wf hx, h', trivial⟩
 | bool => obtain ⟨c, r, rfl, ⟨x, rfl⟩, h'⟩ := lfs_cons h; exact ⟨x, r, fun ρ => rfl, trivial, h', trivial⟩
 | str => obtain ⟨c, r, rfl, ⟨x, rfl, hx, hM⟩, h'⟩ := lfs_cons h; exact ⟨x, r, fun ρ => rfl, hx, h', hM⟩
 | addr => obtain ⟨n, r, rfl, hn, h'⟩ := ad_read h; exact ⟨n, r, fun ρ => rfl, hn, h', trivial⟩
 | pfx => obtain ⟨n, r, rfl, hn, h'⟩ := pf_read h; exact ⟨n, r, fun ρ => rfl, hn, h', trivial⟩
 | lease =>
  obtain ⟨a, r, rfl, ha, h⟩ := ad_read (ls := .str :: .int .i64 :: ls) h
  obtain ⟨s, r, rfl, hs, h_1⟩ := str_read h
  obtain ⟨n, r, rfl, hn, h_2⟩ := int_read h_1
  exact ⟨(⟨a, s, n⟩ : Ls), r, fun ρ => rfl, ⟨ha, hs, hn⟩, h_2, trivial⟩
 | op =>
  obtain ⟨o, r, h1, h2, h_3⟩ := op_read h
  exact ⟨o, r, h1, h2, h_3, trivial⟩
 | entry =>
  obtain ⟨x, r, rfl, hx, h⟩ := int_read (ls := .int .i64 :: (opL ++ ls)) h
  obtain ⟨y, r, rfl, hy, h_4⟩ := int_read h
  obtain ⟨o, r, h1, h2, h_5⟩ := op_read h_4
  exact ⟨(⟨x, y, o⟩ : En), r, fun ρ => by rw [h1 ρ]; rfl, ⟨hx, hy, h2⟩, h_5, trivial⟩
 | event =>
  obtain ⟨x, r, rfl, hx, h⟩ := int_read (ls := .int .i64 :: .int .i64 :: (opL ++ ls)) h
  obtain ⟨y, r, rfl, hy, h_6⟩ := int_read h
  obtain ⟨z, r, rfl, hz, h_7⟩ := int_read h_6
  obtain ⟨o, r, h1, h2, h_8⟩ := op_read h_7
  exact ⟨(⟨x, y, z, o⟩ : Ev), r, fun ρ => by rw [h1 ρ]; rfl, ⟨hx, hy, hz, h2⟩, h_8, trivial⟩
theorem k_read1 (k : K) {cs : List Value} (h : LfsIs M enc P W k.leaves cs) : ∃ a : k.T, (∀ ρ, cs = denL ρ (k.enc a)) ∧ k.In a ∧ k.Le M a := by
 obtain ⟨a, r, h1, h2, h3, h4⟩ := k_read (ls := []) k (by simpa using h)
 rw [lfs_nil h3] at h1
 exact ⟨a, fun ρ => by simpa using h1 ρ, h2, h4⟩
theorem row_read (k : K) (a0 : Addr) (e : TypeId) (d : Nat) (hsh : shapeOf P d e = some k.leaves) (hsz : P.cellsOf e = k.sz) :
  ∀ n, (∀ i, i < n → ∃ cs q y, W.cells? 0 (a0.add (i * P.cellsOf e)) (P.cellsOf e) = some cs ∧ DataW.trod enc P W 0 (fun _ => true) true q e cs = some y) →
   ∃ l : List k.T, l.length = n ∧ (∀ a ∈ l, k.In a) ∧ ∀ ρ (j : Nat) (u : Value), (l.flatMap fun a => denL ρ (k.enc a))[j]? = some u → W.cell? (a0.add j) = some u
 | 0, _ => ⟨[], rfl, (fun a h => by cases h), fun ρ j u h => by simp at h⟩
 | n + 1, h => by
  obtain ⟨l, h1, h2, h3⟩ := row_read k a0 e d hsh hsz n (fun i hi => h i (by omega))
  obtain ⟨cs, q, y, hc, hy⟩ := h n (by omega)
  obtain ⟨a, ha, hin, _⟩ := k_read1 k (shape_ok (M := maxLen) (S := fun _ => True) small_true d q e _ cs y hsh hy trivial)
  obtain ⟨_, hcl, hcc⟩ := World.cells?_some hc
  refine ⟨l ++ [a], by simp [h1], fun b hb => ?_, fun ρ j u hj => ?_⟩
  ·rcases List.mem_append.1 hb with hb | hb
   ·exact h2 b hb
   ·simp only [List.mem_singleton] at hb; subst hb; exact hin
  ·have hfl : (l.flatMap fun a => denL ρ (k.enc a)).length = n * k.sz := by
    have : ∀ l : List k.T, (l.flatMap fun a => denL ρ (k.enc a)).length = l.length * k.sz := by
     intro l
     induction l with
     | nil => simp
     | cons b r ih => rw [List.flatMap_cons, List.length_append, ih, zq4, enc_len, List.length_cons, Nat.succ_mul, Nat.add_comm]
    rw [this, h1]
   rw [List.flatMap_append] at hj
   by_cases hjn : j < n * k.sz
   ·rw [List.getElem?_append_left (by rw [hfl]; exact hjn)] at hj
    exact h3 ρ j u hj
   ·rw [List.getElem?_append_right (by rw [hfl]; omega), hfl] at hj
    have hj' : cs[j - n * k.sz]? = some u := by simpa [ha ρ] using hj
    have hjl : j - n * k.sz < P.cellsOf e := by rw [← hcl]; exact (List.getElem?_eq_some_iff.1 hj').1
    have := hcc _ hjl
    rw [Go.Deep.add_add, hsz, show n * k.sz + (j - n * k.sz) = j by omega] at this
    rw [this, hj']
def segLfs : List Seg → List Lf
 | [] => []
 | .fl k :: r => k.leaves ++ segLfs r
 | .row _ e :: r => .row e :: segLfs r
 | .nest _ _ e _ _ :: r => .row e :: segLfs r
def segsFit (P : Program) : List Seg → Bool
 | [] => true
 | .fl _ :: r => segsFit P r
 | .row k e :: r => decide (shapeOf P 9 e = some k.leaves) && decide (P.cellsOf e = k.sz) && segsFit P r
 | .nest hk ik e ie _ :: r => decide (shapeOf P 9 e = some (hk.leaves ++ [.row ie])) && decide (P.cellsOf e = hk.sz + 1) && decide (shapeOf P 9 ie = some ik.leaves) && decide (P.cellsOf ie = ik.sz) && segsFit P r
def isStructT (P : Program) (t : TypeId) : Bool := match P.underlying t with | some (.struct _) => true | _ => false
def plainT (P : Program) (t : TypeId) : Bool := match P.underlying t with | some .bool => true | some (.int _) => true | some .string => true | some (.slice _) => true | _ => false
def psFit (P : Program) : PS → TypeId → Bool
 | .one (.fl k), t => (bif k.isAgg then isStructT P t else plainT P t) && decide (shapeOf P 9 t = some k.leaves)
 | .one (.row k e), t => plainT P t && decide (shapeOf P 9 t = some [.row e]) && segsFit P [.row k e]
 | .one (.nest hk ik e ie bo), t => plainT P t && decide (shapeOf P 9 t = some [.row e]) && segsFit P [.nest hk ik e ie bo]
 | .agg l, t => isStructT P t && decide (shapeOf P 9 t = some (segLfs l)) && segsFit P l
 | .ref _ _, _ => false
def allFit (P : Program) : List PS → List TypeId → Bool
 | [], [] => true
 | p :: r, t :: ts => psFit P p t && allFit P r ts
 | _, _ => false
theorem cells_lie {w : World} {a : Addr} {n : Nat} {cs : List Value} (h : w.cells? 0 a n = some cs) (hn : 0 < n) : a.block < w.heap.size := by
 obtain ⟨_, hcl, hcc⟩ := World.cells?_some h
 have h0 := hcc 0 hn
 rw [List.getElem?_eq_getElem (by omega)] at h0
 unfold World.cell? at h0
 rw [block_add] at h0
 cases hb : w.heap[a.block]? with
 | none => rw [hb] at h0; simp at h0
 | some o => exact (Array.getElem?_eq_some_iff.1 hb).1
theorem row_is (w : World) (k : K) (e : TypeId) (v : Value) (h : LfIs M enc P w (.row e) v) (hsh : shapeOf P 9 e = some k.leaves) (hsz : P.cellsOf e = k.sz) :
  ∃ l : List k.T, rowIn k l ∧ l.length ≤ M ∧ ∀ ρ, RowIs w v l.length k.sz (l.flatMap fun a => denL ρ (k.enc a)) := by
 rcases h with hv | ⟨a, len, cap, hv, hle, hm, hM, hi⟩
 ·exact ⟨[], ⟨Nat.zero_le _, fun a h => by cases h⟩, Nat.zero_le _, fun ρ => ⟨by simp, none, 0, hv, Nat.le_refl _, Nat.zero_le _, fun _ => rfl, fun a h => by cases h⟩⟩
 ·obtain ⟨l, h1, h2, h3⟩ := row_read (enc := enc) k a e 9 hsh hsz len (fun i h => by obtain ⟨cs, q, y, g1, g2, _⟩ := hi i (by omega); exact ⟨cs, q, y, g1, g2⟩)
  refine ⟨l, ⟨by omega, h2⟩, by omega, fun ρ => ⟨?_, some a, cap, by rw [hv, h1], by omega, hm, (fun h => by cases h), fun b hb => ?_⟩⟩
  ·have : ∀ l : List k.T, (l.flatMap fun a => denL ρ (k.enc a)).length = l.length * k.sz := by
    intro l
    induction l with
    | nil => simp
    | cons b r ih => rw [List.flatMap_cons, List.length_append, ih, zq4, enc_len, List.length_cons, Nat.succ_mul, Nat.add_comm]
   exact this l
  ·cases hb
   refine ⟨fun hc => ?_, fun j u hj => h3 ρ j u hj⟩
   obtain ⟨cs, q, y, h4, _⟩ := hi 0 hc
   have := cells_lie h4 (by rw [hsz]; exact sz_pos k)
   rw [block_add] at this
   exact this
theorem innV_app {vs : List Value} {x : Value} {i : Nat} (h : i < vs.length) : innV (.tuple (vs ++ [x]).toArray) (i : Int) = innV (.tuple vs.toArray) (i : Int) := by
 rw [innV_tup, innV_tup, List.getD_eq_getElem?_getD, List.getD_eq_getElem?_getD, List.getElem?_append_left h]
theorem nest_read (hk ik : K) (a0 : Addr) (e ie : TypeId) (d : Nat) (hsh : shapeOf P d e = some (hk.leaves ++ [.row ie])) (hsz : P.cellsOf e = hk.sz + 1) (hsi : shapeOf P 9 ie = some ik.leaves) (hzi : P.cellsOf ie = ik.sz) :
  ∀ n, (∀ i, i < n → ∃ cs q y, W.cells? 0 (a0.add (i * P.cellsOf e)) (P.cellsOf e) = some cs ∧ DataW.trod enc P W 0 (fun _ => true) true q e cs = some y ∧ ∃ Sx : DataW H → Prop, Small M Sx ∧ Sx y.1) →
   ∃ (l : List hk.T) (ls : List (List ik.T)) (vs : List Value), l.length = n ∧ ls.length = n ∧ vs.length = n ∧ (∀ a ∈ l, hk.In a) ∧ (∀ x ∈ ls, rowIn ik x ∧ x.length ≤ M) ∧
    (∀ (i : Nat) (x : Value) (y : List ik.T), vs[i]? = some x → ls[i]? = some y → ∀ ρ, RowIs W x y.length ik.sz (y.flatMap fun a => denL ρ (ik.enc a))) ∧
    ∀ ρ (j : Nat) (u : Value), (nestDen ρ hk (.tuple vs.toArray) l 0)[j]? = some u → W.cell? (a0.add j) = some u
 | 0, _ => ⟨[], [], [], rfl, rfl, rfl, (fun a h => by cases h), (fun a h => by cases h), (fun i x y h => by simp at h), fun ρ j u h => by simp [nestDen] at h⟩
 | n + 1, h => by
  obtain ⟨l, ls, vs, h1, h2, h3, h4, h5, h6, h7⟩ := nest_read hk ik a0 e ie d hsh hsz hsi hzi n (fun i hi => h i (by omega))
  obtain ⟨cs, q, y, hc, hy, Sx, hSx, hsx⟩ := h n (by omega)
  obtain ⟨a, r, ha, hin, hr, _⟩ := k_read hk (shape_ok hSx d q e _ cs y hsh hy hsx)
  obtain ⟨v, r', rfl, hv, hr'⟩ := lfs_cons hr
  have := lfs_nil hr'
  subst this
  obtain ⟨x, hx1, hx2, hx3⟩ := row_is W ik ie v hv hsi hzi
  obtain ⟨_, hcl, hcc⟩ := World.cells?_some hc
  have hvs : sliceVal v = v := by obtain ⟨_, A, cap, hv, _⟩ := hx3 (fun _ => Go.undef); rw [hv]; rfl
  refine ⟨l ++ [a], ls ++ [x], vs ++ [v], by simp [h1], by simp [h2], by simp [h3], fun b hb => ?_, fun b hb => ?_, fun i x' y' hi hl => ?_, fun ρ j u hj => ?_⟩
  ·rcases List.mem_append.1 hb with hb | hb
   ·exact h4 b hb
   ·simp only [List.mem_singleton] at hb; subst hb; exact hin
  ·rcases List.mem_append.1 hb with hb | hb
   ·exact h5 b hb
   ·simp only [List.mem_singleton] at hb; subst hb; exact ⟨hx1, hx2⟩
  ·by_cases hin : i < n
   ·rw [List.getElem?_append_left (by omega)] at hi hl
    exact h6 i x' y' hi hl
   ·have hi0 : i = n := by
     have := (List.getElem?_eq_some_iff.1 hi).1
     simp at this
     omega
    subst hi0
    rw [List.getElem?_append_right (by omega), h3] at hi
    rw [List.getElem?_append_right (by omega), h2] at hl
    simp only [Nat.sub_self, List.getElem?_cons_zero, Option.some.injEq] at hi hl
    subst hi hl
    exact hx3
  ·have hfl := nest_len ρ hk (.tuple vs.toArray) l 0
   rw [h1] at hfl
   rw [nestDen_app, Nat.zero_add, nestDen_congr ρ hk (.tuple (vs ++ [v]).toArray) (.tuple vs.toArray) l 0 0 (fun i hi => by rw [Nat.zero_add]; exact innV_app (by omega))] at hj
   by_cases hjn : j < n * (hk.sz + 1)
   ·rw [List.getElem?_append_left (by rw [hfl]; exact hjn)] at hj
    exact h7 ρ j u hj
   ·rw [List.getElem?_append_right (by rw [hfl]; omega), hfl, h1] at hj
    have hlast : innV (.tuple (vs ++ [v]).toArray) (n : Int) = v := by
     rw [innV_tup, List.getD_eq_getElem?_getD, List.getElem?_append_right (by omega), h3, Nat.sub_self]
     exact hvs
    have hj' : cs[j - n * (hk.sz + 1)]? = some u := by
     rw [ha ρ]
     simpa [nestDen, hlast] using hj
    have hjl : j - n * (hk.sz + 1) < P.cellsOf e := by rw [← hcl]; exact (List.getElem?_eq_some_iff.1 hj').1
    have := hcc _ hjl
    rw [Go.Deep.add_add, hsz, show n * (hk.sz + 1) + (j - n * (hk.sz + 1)) = j by omega] at this
    rw [this, hj']
theorem nest_seg (w : World) (ρ : Nat → Value) (hk ik : K) (e ie : TypeId) (bo : Bool) (v : Value) (n : Nat) (h : LfIs M enc P w (.row e) v) (hsh : shapeOf P 9 e = some (hk.leaves ++ [.row ie])) (hsz : P.cellsOf e = hk.sz + 1) (hsi : shapeOf P 9 ie = some ik.leaves) (hzi : P.cellsOf ie = ik.sz) :
  ∃ x : List hk.T × List (List ik.T), ((rowIn hk x.1 ∧ x.2.length = x.1.length ∧ ∀ l ∈ x.2, rowIn ik l) ∧ (x.1.length ≤ M ∧ ∀ l ∈ x.2, l.length ≤ M)) ∧ ∃ us, ArgsOk w ρ n [v] [.row (n + 1)] [.bag ik x.2 ie (false && bo) false, .row (.nest hk x.1 n) e false] us := by
 have gen : ∀ (l : List hk.T) (ls : List (List ik.T)) (vs : List Value), sliceVal v = v → vs.length = ls.length → (∀ (i : Nat) (x : Value) (y : List ik.T), vs[i]? = some x → ls[i]? = some y → ∀ ρ, RowIs w x y.length ik.sz (y.flatMap fun a => denL ρ (ik.enc a))) →
   (∀ ρ, RowIs w v l.length (hk.sz + 1) (nestDen ρ hk (.tuple vs.toArray) l 0)) → ∃ us, ArgsOk w ρ n [v] [.row (n + 1)] [.bag ik ls ie (false && bo) false, .row (.nest hk l n) e false] us := by
  intro l ls vs hs hl hb hr
  refine ⟨[.tuple vs.toArray, v], rfl, fun ρ' hg => ?_, fun W' ρ' hg i o u hi hu => ?_, by simp [ltL, SV.lt], fun o ho => ?_⟩
  ·have := hg.tail.head
   simp only [denL, den, this, hs]
  ·have h0 := hg.head
   match i with
   | 0 =>
    simp only [List.getElem?_cons_zero, Option.some.injEq] at hi hu
    subst hi hu
    exact ⟨⟨vs, rfl, hl, fun i x l hx hl => by simp only [Bool.false_and, Bool.false_eq_true, if_false]; exact hb i x l hx hl ρ', (fun h => by cases h), fun h => by cases h⟩, rfl⟩
   | 1 =>
    simp only [List.getElem?_cons_succ, List.getElem?_cons_zero, Option.some.injEq] at hi hu
    subst hi hu
    refine ⟨⟨by simp [C.sz], fun u hu => nest_one _ _ _ _ _ u hu, ?_⟩, rfl⟩
    rw [if_neg (by simp)]
    simp only [C.den, h0, C.n, C.sz]
    exact hr ρ'
   | i + 2 => simp at hi
  ·simp only [List.mem_cons, List.not_mem_nil, or_false] at ho
   rcases ho with rfl | rfl
   ·rfl
   ·simp [Obj.lt, C.lt]
 rcases h with hv | ⟨a, len, cap, hv, hle, hm, hM, hi⟩
 ·refine ⟨([], []), ⟨⟨⟨Nat.zero_le _, fun a h => by cases h⟩, rfl, fun l h => by cases h⟩, Nat.zero_le _, fun l h => by cases h⟩, gen [] [] [] (by rw [hv]; rfl) rfl (fun i x y h => by simp at h) fun ρ => ⟨by simp [nestDen], none, 0, hv, Nat.le_refl _, Nat.zero_le _, fun _ => rfl, fun a h => by cases h⟩⟩
 ·obtain ⟨l, ls, vs, h1, h2, h3, h4, h5, h6, h7⟩ := nest_read (enc := enc) hk ik a e ie 9 hsh hsz hsi hzi len (fun i h => by obtain ⟨cs, q, y, g1, g2, g3⟩ := hi i (by omega); exact ⟨cs, q, y, g1, g2, g3 h⟩)
  refine ⟨(l, ls), ⟨⟨⟨by show l.length ≤ maxLen; omega, h4⟩, by show ls.length = l.length; omega, fun x hx => (h5 x hx).1⟩, by show l.length ≤ M; omega, fun x hx => (h5 x hx).2⟩, gen l ls vs (by rw [hv]; rfl) (by omega) h6 fun ρ => ⟨nest_len _ _ _ _ _, some a, cap, by rw [hv, h1], by omega, hm, (fun h => by cases h), fun b hb => ?_⟩⟩
  cases hb
  refine ⟨fun hc => ?_, fun j u hj => h7 ρ j u hj⟩
  obtain ⟨cs, q, y, h4, _⟩ := hi 0 hc
  have := cells_lie h4 (by rw [hsz]; omega)
  rw [block_add] at this
  exact this
theorem row_seg (w : World) (ρ : Nat → Value) (k : K) (e : TypeId) (v : Value) (n : Nat) (h : LfIs M enc P w (.row e) v)
  (hsh : shapeOf P 9 e = some k.leaves) (hsz : P.cellsOf e = k.sz) : ∃ l : List k.T, (rowIn k l ∧ l.length ≤ M) ∧ ArgsOk w ρ n [v] [.row n] [.row (.ty k l) e false] [v] := by
 obtain ⟨l, h1, h2, h3⟩ := row_is w k e v h hsh hsz
 obtain ⟨_, A, cap, hv, _⟩ := h3 ρ
 refine ⟨l, ⟨h1, h2⟩, rfl, fun ρ' hg => by simp [denL, den, hg.head, hv, sliceVal], fun W' ρ' hg i o u hi hu => ?_, by simp [ltL, SV.lt], fun o ho => by simp at ho; subst ho; rfl⟩
 cases i with
 | zero =>
  simp only [List.getElem?_cons_zero, Option.some.injEq] at hi hu
  subst hi hu
  exact ⟨row_obj e (h3 ρ), rfl⟩
 | succ i => simp at hi
theorem fl_seg (w : World) (ρ : Nat → Value) (k : K) (a : k.T) (cs : List Value) (n : Nat) (h : ∀ ρ, cs = denL ρ (k.enc a)) : ArgsOk w ρ n cs (k.enc a) [] [] :=
 ⟨rfl, fun ρ' _ => (h ρ').symm, fun _ _ _ i o v h => by simp at h, enc_lt k a _, fun o h => by cases h⟩
theorem segs_read (w : World) (ρ : Nat → Value) : ∀ (l : List Seg) (cs : List Value) (n : Nat), segsFit P l = true → LfsIs M enc P w (segLfs l) cs →
  ∃ x : SegsT l, (SegsIn l x ∧ SegsLe M l x) ∧ ∃ us, ArgsOk w ρ n cs (encSegs false l x n).1 (encSegs false l x n).2 us
 | [], cs, n, _, h => by
  rw [lfs_nil h]
  exact ⟨(), ⟨trivial, trivial⟩, [], ArgsOk.nil w ρ n⟩
 | .fl k :: r, cs, n, hf, h => by
  obtain ⟨a, cs', h1, h2, h3, h4⟩ := k_read k h
  have e1 := h1 ρ
  obtain ⟨x, hx, us, hu⟩ := segs_read w ρ r cs' n hf h3
  refine ⟨(a, x), ⟨⟨h2, hx.1⟩, h4, hx.2⟩, us, ?_⟩
  have h0 := fl_seg w ρ k a (denL ρ (k.enc a)) n (fun ρ' => denL_enc ρ' ρ k a)
  have := h0.app hu
  rw [← e1] at this
  exact this
 | .row k e :: r, cs, n, hf, h => by
  obtain ⟨v, cs', rfl, h1, h2⟩ := lfs_cons h
  simp only [segsFit, Bool.and_eq_true, decide_eq_true_eq] at hf
  obtain ⟨l, hl, hrow⟩ := row_seg w ρ k e v n h1 hf.1.1 hf.1.2
  obtain ⟨x, hx, us, hu⟩ := segs_read w ρ r cs' (n + 1) hf.2 h2
  exact ⟨(l, x), ⟨⟨hl.1, hx.1⟩, hl.2, hx.2⟩, _, hrow.app hu⟩
 | .nest hk ik e ie bo :: r, cs, n, hf, h => by
  obtain ⟨v, cs', rfl, h1, h2⟩ := lfs_cons h
  simp only [segsFit, Bool.and_eq_true, decide_eq_true_eq] at hf
  obtain ⟨l, hl, us0, hrow⟩ := nest_seg w ρ hk ik e ie bo v n h1 hf.1.1.1.1 hf.1.1.1.2 hf.1.1.2 hf.1.2
  obtain ⟨x, hx, us, hu⟩ := segs_read w ρ r cs' (n + 2) hf.2 h2
  exact ⟨(l, x), ⟨⟨hl.1, hx.1⟩, hl.2, hx.2⟩, _, hrow.app hu⟩
theorem okStruct {t : TypeId} {v : Value} {r : Reach} {b : Nat} (h : isStructT P t = true) (hv : Value.okWide P W r b t v) : ∃ cs, v = .agg cs := by
 unfold isStructT at h
 split at h
 ·rename_i fs hu
  simp only [Value.okWide, hu] at hv
  obtain ⟨cs, rfl, _⟩ := hv
  exact ⟨cs, rfl⟩
 ·cases h
theorem okPlain {t : TypeId} {v : Value} {r : Reach} {b : Nat} (h : plainT P t = true) (hv : Value.okWide P W r b t v) : v.cells.toList = [v] := by
 have hc : Cell.okWide P W r b t v := by
  unfold plainT at h
  split at h <;> first | (cases h; done) | simp_all [Value.okWide]
 unfold plainT at h
 cases v <;> first | rfl | skip
 all_goals (exfalso; unfold Cell.okWide Cell.ok at hc; split at h <;> simp_all)
include hS in
theorem p_read (w : World) (ρ : Nat → Value) (p : PS) (t : TypeId) (v : Value) (d : DataW H) (q : List MemPlace) {r : Reach} {b : Nat} (n : Nat) (hf : psFit P p t = true) (hv : Value.okWide P w r b t v) (h : DataW.Trod enc P w 0 (fun _ => true) true t v d q) (hsd : S d) :
  ∃ x : p.T, (p.In x ∧ p.Le M x) ∧ ∃ us, ArgsOk w ρ n [v] [(encP false p x n).1] (encP false p x n).2 us := by
 obtain ⟨fuel, h⟩ := h
 cases p with
 | one s =>
  cases s with
  | fl k =>
   simp only [psFit, Bool.and_eq_true, decide_eq_true_eq] at hf
   obtain ⟨a, ha, hin, hle⟩ := k_read1 k (shape_ok hS 9 fuel t _ _ _ hf.2 h hsd)
   refine ⟨a, ⟨hin, hle⟩, [], rfl, fun ρ' _ => ?_, fun _ _ _ i o v h => ?_, ?_, fun o ho => ?_⟩
   ·show [den ρ' (flV k a)] = [v]
    cases hk : k.isAgg
    ·rw [hk] at hf
     have hc := okPlain hf.1 hv
     have e := ha ρ'
     rw [hc] at e
     unfold flV
     rw [hk]
     have hlen := enc_len k a
     simp only [cond_false]
     match hx : k.enc a, hlen with
     | [], _ => rw [hx] at e; simp [denL] at e
     | [c], _ => rw [hx] at e; simpa [denL] using e.symm
     | c :: c' :: r, _ => rw [hx] at e; simp [denL] at e
    ·rw [hk] at hf
     obtain ⟨cs, rfl⟩ := okStruct hf.1 hv
     have e := ha ρ'
     unfold flV
     rw [hk]
     simp only [cond_true, den]
     rw [← e]
     rfl
   ·have h : ([] : Mem)[i]? = some o := h
    simp at h
   ·show (SV.lt (n + 0) (flV k a) && true) = true
    rw [flV_lt]
    rfl
   ·have ho : o ∈ ([] : Mem) := ho
    cases ho
  | row k e =>
   simp only [psFit, segsFit, Bool.and_eq_true, decide_eq_true_eq] at hf
   have hc := okPlain hf.1.1 hv
   have h1 := shape_ok hS 9 fuel t _ _ _ hf.1.2 h hsd
   rw [hc] at h1
   obtain ⟨l, hl, hrow⟩ := row_seg w ρ k e v n h1.1 hf.2.1.1 hf.2.1.2
   exact ⟨l, hl, _, hrow⟩
  | nest hk ik e ie bo =>
   simp only [psFit, segsFit, Bool.and_eq_true, decide_eq_true_eq] at hf
   have hc := okPlain hf.1.1 hv
   have h1 := shape_ok hS 9 fuel t _ _ _ hf.1.2 h hsd
   rw [hc] at h1
   obtain ⟨l, hl, us, hrow⟩ := nest_seg w ρ hk ik e ie bo v n h1.1 hf.2.1.1.1.1 hf.2.1.1.1.2 hf.2.1.1.2 hf.2.1.2
   exact ⟨l, hl, us, hrow⟩
 | agg l =>
  simp only [psFit, Bool.and_eq_true, decide_eq_true_eq] at hf
  obtain ⟨cs, rfl⟩ := okStruct hf.1.1 hv
  obtain ⟨x, hx, us, hu⟩ := segs_read w ρ l cs.toList n hf.2 (shape_ok hS 9 fuel t _ _ _ hf.1.2 h hsd)
  refine ⟨x, hx, us, hu.len, fun ρ' hg => ?_, hu.obj, ?_, hu.lt.2⟩
  ·have := hu.den ρ' hg
   simp only [encP, denL, den, this]
  ·simpa [encP, ltL, SV.lt] using hu.lt.1
 | ref l ty => simp [psFit] at hf
include hS in
theorem all_read (w : World) (ρ : Nat → Value) {r : Reach} {b : Nat} : ∀ (ps : List PS) (ts : List TypeId) (vs : List Value) (ds : List (DataW H)) (q : List MemPlace) (n : Nat), allFit P ps ts = true →
  (∀ (j : Nat) t v, ts[j]? = some t → vs[j]? = some v → Value.okWide P w r b t v) → DataW.TrodAll enc P w 0 (fun _ => true) true ts vs ds q → (∀ d ∈ ds, S d) →
  ∃ x : PsT ps, (PsIn ps x ∧ PsLe M ps x) ∧ ∃ us, ArgsOk w ρ n vs (encA false ps x n).1 (encA false ps x n).2 us
 | [], [], [], _, _, n, _, _, _, _ => ⟨(), ⟨trivial, trivial⟩, [], ArgsOk.nil w ρ n⟩
 | [], [], _ :: _, _, _, _, _, _, h, _ => (by cases h)
 | [], _ :: _, _, _, _, _, hf, _, _, _ => by simp [allFit] at hf
 | _ :: _, [], _, _, _, _, hf, _, _, _ => by simp [allFit] at hf
 | _ :: _, _ :: _, [], _, _, _, _, _, h, _ => by cases h
 | _ :: _, _ :: _, _ :: _, [], _, _, _, _, h, _ => by cases h
 | p :: ps, t :: ts, v :: vs, d :: ds, q, n, hf, hv, h, hsd => by
  simp only [allFit, Bool.and_eq_true] at hf
  obtain ⟨q1, q2, h1, h2, _⟩ := h
  obtain ⟨x, hx, us, hu⟩ := p_read hS w ρ p t v d q1 n hf.1 (hv 0 t v rfl rfl) h1 (hsd d (by simp))
  obtain ⟨y, hy, us', hu'⟩ := all_read w ρ ps ts vs ds q2 (n + (encP false p x n).2.length) hf.2 (fun j t' v' h3 h4 => hv (j + 1) t' v' (by simpa using h3) (by simpa using h4)) h2 (fun d' hd => hsd d' (by simp [hd]))
  exact ⟨(x, y), ⟨⟨hx.1, hy.1⟩, hx.2, hy.2⟩, _, hu.app hu'⟩
include hS in
theorem law_calls_le (hG : Glob P W) {f : FuncId} {ps : List PS} {t : PsT ps → Option (PsT [PS.one (.fl .bool)])} (ht : TrOk P f (con ps [PS.one (.fl .bool)] t)) (hlaw : ∀ x, PsIn ps x → PsLe M ps x → t x = some ((true : Bool), ()))
  (hdec : ∀ x : PsT ps, decA (encA false ps x 0).2 ps (encA false ps x 0).1 = some x) (hany : ∀ x : PsT ps, (encA false ps x 0).1.all (fun v => !v.isAny) = true)
  {ts : List TypeId} {vs : List Value} {ds : List (DataW H)} {q : List MemPlace} {r : Reach} {b : Nat} (hf : allFit P ps ts = true)
  (hv : ∀ (j : Nat) t v, ts[j]? = some t → vs[j]? = some v → Value.okWide P W r b t v) (h : DataW.TrodAll enc P W 0 (fun _ => true) true ts vs ds q) (hsd : ∀ d ∈ ds, S d) :
  Calls P f vs.toArray W fun e W' => e = .returned (.bool true) ∧ Below W.heap.size W W' := by
 obtain ⟨x, hx, us, hu⟩ := all_read hS W (fun _ => Go.undef) ps ts vs ds q 0 hf hv h hsd
 have hrel := hu.rel
 have hden := hu.den _ (gives_nameOf us)
 have hk : conTr ps [PS.one (.fl .bool)] t (SV × Mem) (encA false ps x 0).1 (encA false ps x 0).2 (fun r m => some (r, m)) = some (SV.b true, (encA false ps x 0).2 ++ []) := by
  simp only [conTr, hdec x, hlaw x hx.1 hx.2, Option.bind_some]
  rfl
 have hc := ht.1 W hG (SV × Mem) (encA false ps x 0).1 (encA false ps x 0).2 (fun r m => some (r, m)) _ hk (hany x)
 have := hc.call (by have := hu.lt.1; simpa using this) _ W hrel
 rw [hden] at this
 refine this.mono ?_
 rintro e w' ⟨ρ', r', m', rfl, hm', _, _, _, hres⟩
 have hres : (some (r', m') : Option (SV × Mem)) = some (SV.b true, (encA false ps x 0).2 ++ []) := hres
 injection hres with hres
 injection hres with h1 h2
 refine ⟨?_, hm'.below⟩
 rw [h1]
 rfl
theorem law_calls (hG : Glob P W) {f : FuncId} {ps : List PS} {t : PsT ps → Option (PsT [PS.one (.fl .bool)])} (ht : TrOk P f (con ps [PS.one (.fl .bool)] t)) (hlaw : ∀ x, PsIn ps x → t x = some ((true : Bool), ()))
  (hdec : ∀ x : PsT ps, decA (encA false ps x 0).2 ps (encA false ps x 0).1 = some x) (hany : ∀ x : PsT ps, (encA false ps x 0).1.all (fun v => !v.isAny) = true)
  {ts : List TypeId} {vs : List Value} {ds : List (DataW H)} {q : List MemPlace} {r : Reach} {b : Nat} (hf : allFit P ps ts = true)
  (hv : ∀ (j : Nat) t v, ts[j]? = some t → vs[j]? = some v → Value.okWide P W r b t v) (h : DataW.TrodAll enc P W 0 (fun _ => true) true ts vs ds q) :
  Calls P f vs.toArray W fun e W' => e = .returned (.bool true) ∧ Below W.heap.size W W' :=
 law_calls_le small_true hG ht (fun x hx _ => hlaw x hx) hdec hany hf hv h (fun _ _ => trivial)
theorem all_back {W' : World} (hl : laidOutB P = true) (hb : Below W.heap.size W W') : ∀ (ts : List TypeId) (vs : List Value) (ds : List (DataW H)) (q : List MemPlace), (ts.all fun t => P.readableRec t && decide (t < P.types.size)) = true →
  DataW.TrodAll enc P W 0 (fun _ => true) true ts vs ds q → DataW.TrodAll enc P W' 0 (fun b => decide (b < W.heap.size)) true ts vs ds q
 | [], [], [], _, _, h => h
 | [], [], _ :: _, _, _, h => h
 | [], _ :: _, _, _, _, h => h
 | _ :: _, [], _, _, _, h => h
 | _ :: _, _ :: _, [], _, _, h => h
 | t :: ts, v :: vs, d :: ds, q, hr, h => by
  simp only [List.all_cons, Bool.and_eq_true, decide_eq_true_eq] at hr
  obtain ⟨q1, q2, h1, h2, h3⟩ := h
  have lt0 : ∀ x ∈ q1, x.block < W.heap.size := by obtain ⟨m, hm⟩ := h1; exact DataW.trod_lt m _ _ _ hm
  exact ⟨q1, q2, Below.trod hl hr.1.1 hr.1.2 h1 hb lt0, all_back hl hb ts vs ds q2 hr.2 h2, h3⟩
theorem flat_calls (hG : Glob P W) {f : FuncId} {ps : List PS} {k : K} {t : PsT ps → Option (PsT [PS.one (.fl k)])} (ht : TrOk P f (con ps [PS.one (.fl k)] t)) {x : PsT ps} {y : k.T} (hx : t x = some (y, ()))
  (hdec : decA (encA false ps x 0).2 ps (encA false ps x 0).1 = some x) (hany : (encA false ps x 0).1.all (fun v => !v.isAny) = true) {ρ : Nat → Value} {vals us : List Value}
  (hu : ArgsOk W ρ 0 vals (encA false ps x 0).1 (encA false ps x 0).2 us) :
  Calls P f vals.toArray W fun e W' => (∃ ρ', e = .returned (den ρ' (flV k y))) ∧ Below W.heap.size W W' := by
 have hrel := hu.rel
 have hden := hu.den _ (gives_nameOf us)
 have hk : conTr ps [PS.one (.fl k)] t (SV × Mem) (encA false ps x 0).1 (encA false ps x 0).2 (fun r m => some (r, m)) = some (flV k y, (encA false ps x 0).2 ++ []) := by
  simp only [conTr, hdec, hx, Option.bind_some]
  rfl
 have hc := ht.1 W hG (SV × Mem) (encA false ps x 0).1 (encA false ps x 0).2 (fun r m => some (r, m)) _ hk hany
 have := hc.call (by have := hu.lt.1; simpa using this) _ W hrel
 rw [hden] at this
 refine this.mono ?_
 rintro e w' ⟨ρ', r', m', rfl, hm', _, _, _, hres⟩
 have hres : (some (r', m') : Option (SV × Mem)) = some (flV k y, (encA false ps x 0).2 ++ []) := hres
 injection hres with hres
 injection hres with h1 h2
 exact ⟨⟨ρ', by rw [h1]⟩, hm'.below⟩
end
end Go.Ma
namespace Go.Ma
open Go Go.RowKit
end Go.Ma
namespace Go.Ma
open Go Go.RowKit
section
variable {W : World} {ρ : Nat → Value} {m : Mem} {w : World} (hm : RelM W ρ m w)
include hm
end
end Go.Ma
namespace Go.Ma
open Go Go.RowKit
def loopN {α Y : Type} (step : (α → Option Y) → α → Option Y) : Nat → α → Option Y
 | 0, _ => none
 | n + 1, x => step (loopN step n) x
def FUEL : Nat := 18446744073709551616
structure LoopS where
 n : Nat
 base : Nat
 head : Form
 exits : List ExitF
def loopTr (ls : LoopS) (L : ls.head.T → Option (OutT ls.exits)) : LTr := fun _ base s e r =>
 bif decide (base = ls.base) then (isF ls.n ls.base ls.head s).bind fun x => (L x).bind fun y => goOn ls.n e r ls.exits y else none
theorem loop_ok {P : Program} {E : Env} (hE : EnvOk P E) {b : Code} (hl : LoopsOk P E b) (ls : LoopS) (step : (ls.head.T → Option (OutT ls.exits)) → ls.head.T → Option (OutT ls.exits)) (N : Nat)
  (h : ∀ rec x, ix E ls.base b (stF ls.n ls.head x) (fun s => (isF ls.n ls.base ls.head s).bind rec) (fun i s => outF ls.n ls.base ls.exits (some i) s) (fun s => outF ls.n ls.base ls.exits none s) = step rec x) :
  LOk P b (loopTr ls (loopN step N)) := by
 intro W hG X base s e r x hx
 unfold loopTr at hx
 cases hb : decide (base = ls.base)
 ·rw [hb] at hx; cases hx
 rw [hb] at hx
 simp only [decide_eq_true_eq] at hb
 subst hb
 obtain ⟨x0, hx0, hx⟩ := Option.bind_eq_some_iff.1 hx
 obtain ⟨y, hy, hgo⟩ := Option.bind_eq_some_iff.1 hx
 refine ⟨fun hbase ρ a w Q hs _ he hr => ?_⟩
 obtain ⟨ρ0, hs0, hag0, hle0⟩ := hs.form hx0
 refine wp_loop_ghost (fun k a' w' => ∃ z ρ', RelS W ρ' (stF ls.n ls.head z) a' w' ∧ loopN step k z = some y ∧ Agree ls.base ρ ρ' ∧ ls.base ≤ (stF ls.n ls.head z).m.length) N ⟨x0, ρ0, hs0, hy, hag0, hle0⟩ ?_
 rintro k a' w' ⟨z, ρ', hs', hz, hag, hle⟩
 cases k with
 | zero => cases hz
 | succ k =>
  have hz : step (loopN step k) z = some y := hz
  rw [← h (loopN step k) z] at hz
  refine (ix_ok ⟨hE, hG⟩ b _ _ _ _ hl hz).code hle ρ' a' w' _ hs' (fun ρ'' s'' a'' w'' hag' hle' hs'' hk => ?_) (fun i ρ'' s'' a'' w'' hag' hle' hs'' hk => ?_) (fun ρ'' s'' a'' w'' hag' hle' hs'' hk => ?_)
  ·obtain ⟨z', hz', hk⟩ := Option.bind_eq_some_iff.1 hk
   obtain ⟨ρ3, hs3, hag3, hle3⟩ := hs''.form hz'
   exact ⟨k, by omega, z', ρ3, hs3, hk, (hag.trans hag' (Nat.le_refl _)).trans hag3 (Nat.le_refl _), hle3⟩
  ·obtain ⟨f, u, hf, hgo'⟩ := out_go ls.exits (some i) s'' y hk hgo
   obtain ⟨ρ3, hs3, hag3, hle3⟩ := hs''.form hf
   exact he i ρ3 _ a'' w'' ((hag.trans hag' (Nat.le_refl _)).trans hag3 (Nat.le_refl _)) hle3 hs3 hgo'
  ·obtain ⟨f, u, hf, hgo'⟩ := out_go ls.exits none s'' y hk hgo
   obtain ⟨ρ3, hs3, hag3, hle3⟩ := hs''.form hf
   exact hr ρ3 _ a'' w'' ((hag.trans hag' (Nat.le_refl _)).trans hag3 (Nat.le_refl _)) hle3 hs3 hgo'
def lookJ : List (Nat × JoinS) → Nat → Option JoinS
 | [], _ => none
 | (n, a) :: r, f => bif Nat.beq f n then some a else lookJ r f
def look {α : Type 1} : List (Nat × α) → Nat → Option α
 | [], _ => none
 | (n, a) :: r, f => bif Nat.beq f n then some a else look r f
def mkEnv (T : Nat → TI) (B : Nat → Bool) (calls : List (Nat × Con)) (loops : List (Nat × LTr)) (conds : List (Nat × JoinS) := []) : Env := { T := T, B := B, call := look calls, loop := look loops, cond := lookJ conds }
def CallsOk (P : Program) : List (Nat × Con) → Prop
 | [] => True
 | (f, g) :: r => TrOk P f g ∧ CallsOk P r
theorem callsNil {P : Program} : CallsOk P [] := trivial
theorem callsCons {P : Program} {f : Nat} {g : Con} {l : List (Nat × Con)} (h : TrOk P f g) (r : CallsOk P l) : CallsOk P ((f, g) :: l) := ⟨h, r⟩
theorem look_ok {P : Program} : ∀ {l : List (Nat × Con)}, CallsOk P l → ∀ f g, look l f = some g → TrOk P f g
 | [], _, f, g, h => by cases h
 | (n, a) :: r, hc, f, g, h => by
  simp only [look] at h
  cases hb : Nat.beq f n
  ·rw [hb] at h; exact look_ok hc.2 f g h
  ·rw [hb] at h
   have := Nat.eq_of_beq_eq_true hb
   subst this
   injection h with h
   subst h
   exact hc.1
theorem envOk {P : Program} {T : Nat → TI} {B : Nat → Bool} (hT : TOk P T) (hB : ∀ f, B f = true → HasBody P f) {calls : List (Nat × Con)} (hc : CallsOk P calls) (loops : List (Nat × LTr)) (conds : List (Nat × JoinS) := []) : EnvOk P (mkEnv T B calls loops conds) :=
 ⟨hT, hB, look_ok hc⟩
def codeOf (fn : Func) : Code := match fn.body with | some c => c | none => .skip
def LsOk (P : Program) (E : Env) : List Code → Prop
 | [] => True
 | b :: r => (∀ l, E.loop (regId b) = some l → LOk P b l) ∧ LsOk P E r
theorem lsNil {P : Program} {E : Env} : LsOk P E [] := trivial
theorem lsCons {P : Program} {E : Env} {b : Code} {l : List Code} (h : ∀ t, E.loop (regId b) = some t → LOk P b t) (r : LsOk P E l) : LsOk P E (b :: l) := ⟨h, r⟩
theorem ls_mem {P : Program} {E : Env} : ∀ {l : List Code}, LsOk P E l → ∀ b ∈ l, ∀ t, E.loop (regId b) = some t → LOk P b t
 | [], _, b, hb, _, _ => by cases hb
 | c :: r, h, b, hb, t, ht => by
  rcases List.mem_cons.1 hb with rfl | hb
  ·exact h.1 t ht
  ·exact ls_mem h.2 b hb t ht
theorem loopsOk {P : Program} {E : Env} {c : Code} {l : List Code} (h : loopsOf c = l) (hl : LsOk P E l) : LoopsOk P E c := fun b hb => ls_mem hl b (by rw [← h]; exact hb)
theorem one_loop {P : Program} {E : Env} {b : Code} {t : LTr} (h : E.loop (regId b) = some t) (ht : LOk P b t) : ∀ l, E.loop (regId b) = some l → LOk P b l := by
 intro l hl
 rw [h] at hl
 injection hl with hl
 subst hl
 exact ht
theorem bodyOk {P : Program} {E : Env} {fn : Func} {l : List Code} (h : loopsOf (codeOf fn) = l) (hl : LsOk P E l) : ∀ c, fn.body = some c → LoopsOk P E c := by
 intro c hc
 refine loopsOk ?_ hl
 rw [← h]
 unfold codeOf
 rw [hc]
def nthLoop (c : Code) (i : Nat) : Code := (loopsOf c).getD i .skip
def eqAd (a b : Ad) : Bool := beqB a.v6 b.v6 && (acmp .eql a.hi b.hi && acmp .eql a.lo b.lo)
def eqPf (a b : Pf) : Bool := beqB a.ad.v6 b.ad.v6 && (acmp .eql a.ad.hi b.ad.hi && (acmp .eql a.ad.lo b.ad.lo && acmp .eql a.bits b.bits))
end Go.Ma
namespace Go.Ma
open Go Go.RowKit
end Go.Ma
namespace Go.Ma
open Go
noncomputable def addr_Check_t (a0 : Ad) : Option (Int × Unit) :=
 (br (!a0.v6)
   (br (!decide (a0.hi = 0))
    (some true)
    (some (decide (a0.lo ≥ 4294967296))))
   (some false)).bind fun c1 =>
 br c1
  (some (3, ()))
  (some (0, ()))
noncomputable def prefix_Wide_t (a0 : Ad) : Option (Int × Unit) :=
 br a0.v6
  (some (128, ()))
  (some (32, ()))
noncomputable def prefix_mask_t (a0 : Ad) (a1 : Int) : Option (Ad × Unit) :=
 (prefix_Wide_t a0).bind fun y1 =>
 req (i64ok (y1.1 - a1)) <|
 br (decide (y1.1 - a1 < 64))
  (req (decide (0 ≤ y1.1 - a1)) <|
  br (decide (y1.1 - a1 > 64))
   (br (decide (y1.1 - a1 < 128))
    (req (i64ok ((y1.1 - a1) - 64)) <|
    req (decide (0 ≤ (y1.1 - a1) - 64)) <|
    some ((⟨a0.v6, aop .sub .u64 (aop .shl .u64 1 ((y1.1 - a1) - 64)) 1, aop .sub .u64 (aop .shl .u64 1 (y1.1 - a1)) 1⟩ : Ad), ()))
    (some ((⟨a0.v6, 18446744073709551615, aop .sub .u64 (aop .shl .u64 1 (y1.1 - a1)) 1⟩ : Ad), ())))
   (some ((⟨a0.v6, 0, aop .sub .u64 (aop .shl .u64 1 (y1.1 - a1)) 1⟩ : Ad), ())))
  (br (decide (y1.1 - a1 > 64))
   (br (decide (y1.1 - a1 < 128))
    (req (i64ok ((y1.1 - a1) - 64)) <|
    req (decide (0 ≤ (y1.1 - a1) - 64)) <|
    some ((⟨a0.v6, aop .sub .u64 (aop .shl .u64 1 ((y1.1 - a1) - 64)) 1, 18446744073709551615⟩ : Ad), ()))
    (some ((⟨a0.v6, 18446744073709551615, 18446744073709551615⟩ : Ad), ())))
   (some ((⟨a0.v6, 0, 18446744073709551615⟩ : Ad), ())))
noncomputable def prefix_Cut_t (a0 : Ad) (a1 : Int) : Option (Ad × Unit) :=
 (prefix_mask_t a0 a1).bind fun y1 =>
 some ((⟨a0.v6, aop .andNot .u64 a0.hi y1.1.hi, aop .andNot .u64 a0.lo y1.1.lo⟩ : Ad), ())
noncomputable def zq7 (a0 : Pf) : Option (Int × Unit) :=
 (addr_Check_t a0.ad).bind fun y1 =>
 br (!decide (y1.1 = 0))
  (some (y1.1, ()))
  ((br (decide (a0.bits < 0))
    (some true)
    ((prefix_Wide_t a0.ad).bind fun y2 =>
    some (decide (a0.bits > y2.1)))).bind fun c2 =>
  br c2
   (some (3, ()))
   ((prefix_Cut_t a0.ad a0.bits).bind fun y3 =>
   br (!(eqAd y3.1 a0.ad))
    (some (4, ()))
    (some (0, ()))))
noncomputable def addr_group_t (a0 : Ad) (a1 : Int) : Option (Int × Unit) :=
 br (decide (a1 < 4))
  (req (i64ok (16 * a1)) <|
  req (i64ok (48 - (16 * a1))) <|
  req (decide (0 ≤ 48 - (16 * a1))) <|
  some (aop .and .u64 (aop .shr .u64 a0.hi (48 - (16 * a1))) 65535, ()))
  (req (i64ok (16 * a1)) <|
  req (i64ok (112 - (16 * a1))) <|
  req (decide (0 ≤ 112 - (16 * a1))) <|
  some (aop .and .u64 (aop .shr .u64 a0.lo (112 - (16 * a1))) 65535, ()))
noncomputable def addr_row_L2 (rec : (((Int × Unit) × (Unit) × (Int × Unit) × Unit) × ((Ad × Unit) × Unit)) → Option (((Int × Unit) × Unit) × (Unit))) (x : (((Int × Unit) × (Unit) × (Int × Unit) × Unit) × ((Ad × Unit) × Unit))) : Option (((Int × Unit) × Unit) × (Unit)) :=
 let v0 := x.1.1.1
 let v1 := x.1.2.2.1.1
 let v2 := x.2.1.1
 req (i64ok (v0 + v1)) <|
 (br (decide (v0 + v1 < 8))
   (req (i64ok (v0 + v1)) <|
   (addr_group_t v2 (v0 + v1)).bind fun y1 =>
   some (decide (y1.1 = 0)))
   (some false)).bind fun c1 =>
 br c1
  (req (i64ok (v1 + 1)) <|
  rec (((v0, ()), (()), (v1 + 1, ()), ()), ((v2, ()), ())))
  (some (((v1, ()), ()), (())))
noncomputable def addr_row_t (a0 : Ad) (a1 : Int) : Option (Int × Unit) :=
 (loopN addr_row_L2 FUEL (((a1, ()), (()), (0, ()), ()), ((a0, ()), ()))).bind fun y1 =>
 some (y1.1.1.1, ())
noncomputable def zq1 (rec : (((Unit) × (Int × Unit) × (Int × Unit) × (Int × Unit) × Unit) × ((Ad × Unit) × Unit)) → Option (((Int × Unit) × (Int × Unit) × Unit) × (Unit))) (x : (((Unit) × (Int × Unit) × (Int × Unit) × (Int × Unit) × Unit) × ((Ad × Unit) × Unit))) : Option (((Int × Unit) × (Int × Unit) × Unit) × (Unit)) :=
 let v0 := x.1.2.1.1
 let v1 := x.1.2.2.1.1
 let v2 := x.1.2.2.2.1.1
 let v3 := x.2.1.1
 br (decide (v2 < 8))
  ((addr_row_t v3 v2).bind fun y1 =>
  br (decide (y1.1 > v1))
   (req (i64ok (v2 + 1)) <|
   rec (((()), (v2, ()), (y1.1, ()), (v2 + 1, ()), ()), ((v3, ()), ())))
   (req (i64ok (v2 + 1)) <|
   rec (((()), (v0, ()), (v1, ()), (v2 + 1, ()), ()), ((v3, ()), ()))))
  (some (((v0, ()), (v1, ()), ()), (())))
noncomputable def addr_longest_t (a0 : Ad) : Option (Int × Int × Unit) :=
 (loopN zq1 FUEL (((()), (0, ()), (1, ()), (0, ()), ()), ((a0, ()), ()))).bind fun y1 =>
 br (decide (y1.1.2.1.1 < 2))
  (some (0, 0, ()))
  (some (y1.1.1.1, y1.1.2.1.1, ()))
noncomputable def prefix_two_L2 (rec : (((Unit) × (Int × Unit) × (Int × Unit) × Unit) × (List Pf × Unit)) → Option ((((Int × Unit) × Unit) × (List Pf × Unit)) ⊕ ((Unit) × (List Pf × Unit)))) (x : (((Unit) × (Int × Unit) × (Int × Unit) × Unit) × (List Pf × Unit))) : Option ((((Int × Unit) × Unit) × (List Pf × Unit)) ⊕ ((Unit) × (List Pf × Unit))) :=
 let v0 := x.1.2.1.1
 let v1 := x.1.2.2.1.1
 let v2 := x.2.1
 br (decide (v1 < v0))
  (req (inRange v1 (lenL v2)) <|
  (geti v2 v1).bind fun p1 =>
  (zq7 p1).bind fun y2 =>
  br (!decide (y2.1 = 0))
   (some (Sum.inl (((y2.1, ()), ()), (v2, ()))))
   (req (i64ok (v1 + 1)) <|
   rec (((()), (v0, ()), (v1 + 1, ()), ()), (v2, ()))))
  (some (Sum.inr (((()), (v2, ())))))
noncomputable def prefix_two_t (a0 : List Pf) : Option (Int × Unit) :=
 (loopN prefix_two_L2 FUEL (((()), (lenL a0, ()), (0, ()), ()), (a0, ()))).bind fun y1 =>
 sumC y1 (fun y2 =>
  some (y2.1.1.1, ())) (fun y3 =>
  some (0, ()))
noncomputable def prefix_Holds_t (a0 : Pf) (a1 : Ad) : Option (Bool × Unit) :=
 (br (beqB a0.ad.v6 a1.v6)
   ((prefix_Cut_t a1 a0.bits).bind fun y1 =>
   some (eqAd y1.1 a0.ad))
   (some false)).bind fun c1 =>
 some (c1, ())
noncomputable def prefix_Over_t (a0 : Pf) (a1 : Pf) : Option (Bool × Unit) :=
 (br (decide (a0.bits ≤ a1.bits))
   ((prefix_Holds_t a0 a1.ad).bind fun y1 =>
   some y1.1)
   (some false)).bind fun c1 =>
 some (c1, ())
noncomputable def prefix_Has_t (a0 : Pf) (a1 : Pf) : Option (Bool × Int × Unit) :=
 (prefix_two_t ([a0, a1] : List Pf)).bind fun y1 =>
 br (!decide (y1.1 = 0))
  (some (false, y1.1, ()))
  ((prefix_Over_t a0 a1).bind fun y2 =>
  some (y2.1, 0, ()))
noncomputable def prefix_Last_t (a0 : Pf) : Option (Ad × Unit) :=
 (prefix_mask_t a0.ad a0.bits).bind fun y1 =>
 some ((⟨a0.ad.v6, aop .or .u64 a0.ad.hi y1.1.hi, aop .or .u64 a0.ad.lo y1.1.lo⟩ : Ad), ())
noncomputable def prefix_Ends_t (a0 : Pf) : Option (Ad × Ad × Int × Unit) :=
 (zq7 a0).bind fun y1 =>
 br (!decide (y1.1 = 0))
  (some ((⟨false, 0, 0⟩ : Ad), (⟨false, 0, 0⟩ : Ad), y1.1, ()))
  ((prefix_Last_t a0).bind fun y2 =>
  some (a0.ad, y2.1, 0, ()))
noncomputable def addr_After_t (a0 : Ad) : Option (Ad × Bool × Unit) :=
 (br a0.v6
   (some (decide (aop .add .u64 a0.lo 1 = 0)))
   (some false)).bind fun c1 =>
 br c1
  (some ((⟨a0.v6, aop .add .u64 a0.hi 1, aop .add .u64 a0.lo 1⟩ : Ad), !decide (aop .add .u64 a0.hi 1 = 0), ()))
  (br a0.v6
   (both
    (dup 1 <|
    some ((⟨a0.v6, a0.hi, aop .add .u64 a0.lo 1⟩ : Ad), true, ()))
    (some ((⟨a0.v6, a0.hi, aop .add .u64 a0.lo 1⟩ : Ad), true, ())))
   (some ((⟨a0.v6, a0.hi, aop .add .u64 a0.lo 1⟩ : Ad), decide (aop .add .u64 a0.lo 1 < 4294967296), ())))
noncomputable def prefix_Split_t (a0 : Pf) : Option (Pf × Pf × Unit) :=
 req (i64ok (a0.bits + 1)) <|
 (prefix_Last_t (⟨a0.ad, a0.bits + 1⟩ : Pf)).bind fun y1 =>
 (addr_After_t y1.1).bind fun y2 =>
 req (i64ok (a0.bits + 1)) <|
 some ((⟨a0.ad, a0.bits + 1⟩ : Pf), (⟨y2.1, a0.bits + 1⟩ : Pf), ())
noncomputable def prefix_Halves_t (a0 : Pf) : Option (Pf × Pf × Int × Unit) :=
 (zq7 a0).bind fun y1 =>
 (br (decide (y1.1 = 0))
   ((prefix_Wide_t a0.ad).bind fun y2 =>
   some (decide (a0.bits = y2.1)))
   (some false)).bind fun c2 =>
 br c2
  (some ((⟨(⟨false, 0, 0⟩ : Ad), 0⟩ : Pf), (⟨(⟨false, 0, 0⟩ : Ad), 0⟩ : Pf), 5, ()))
  (br (!decide (y1.1 = 0))
   (some ((⟨(⟨false, 0, 0⟩ : Ad), 0⟩ : Pf), (⟨(⟨false, 0, 0⟩ : Ad), 0⟩ : Pf), y1.1, ()))
   ((prefix_Split_t a0).bind fun y3 =>
   some (y3.1, y3.2.1, 0, ())))
noncomputable def prefix_Joined_t (a0 : Pf) (a1 : Pf) : Option (Pf × Bool × Unit) :=
 (br (decide (a0.bits = 0))
   (some true)
   (some (!decide (a0.bits = a1.bits)))).bind fun c1 =>
 (br c1
   (some true)
   (some (!(beqB a0.ad.v6 a1.ad.v6)))).bind fun c2 =>
 br c2
  (some ((⟨(⟨false, 0, 0⟩ : Ad), 0⟩ : Pf), false, ()))
  (req (i64ok (a0.bits - 1)) <|
  req (i64ok (a0.bits - 1)) <|
  dup 1 <|
  (prefix_Cut_t a0.ad (a0.bits - 1)).bind fun y3 =>
  (prefix_Split_t (⟨y3.1, a0.bits - 1⟩ : Pf)).bind fun y4 =>
  br (eqPf y4.1 a0)
   (some ((⟨y3.1, a0.bits - 1⟩ : Pf), eqPf y4.2.1 a1, ()))
   (dup 1 <|
   some ((⟨y3.1, a0.bits - 1⟩ : Pf), false, ())))
noncomputable def prefix_Whole_t (a0 : Pf) (a1 : Pf) : Option (Pf × Int × Unit) :=
 (prefix_two_t ([a0, a1] : List Pf)).bind fun y1 =>
 br (!decide (y1.1 = 0))
  (some ((⟨(⟨false, 0, 0⟩ : Ad), 0⟩ : Pf), y1.1, ()))
  ((prefix_Joined_t a0 a1).bind fun y2 =>
  br (!y2.2.1)
   (some ((⟨(⟨false, 0, 0⟩ : Ad), 0⟩ : Pf), 4, ()))
   (some (y2.1, 0, ())))
noncomputable def R_CheckAddr_t (a0 : Ad) : Option (Int × Unit) :=
 (br (!a0.v6)
   (br (decide (a0.hi > 0))
    (some true)
    (some (decide (a0.lo > 4294967295))))
   (some false)).bind fun c1 =>
 br c1
  (some (3, ()))
  (some (0, ()))
noncomputable def R_wide_t (a0 : Ad) : Option (Int × Unit) :=
 br a0.v6
  (some (128, ()))
  (some (32, ()))
noncomputable def R_between_t (a0 : Int) (a1 : Int) (a2 : Int) : Option (Bool × Unit) :=
 (br (decide (a0 ≥ a1))
   (some (decide (a0 ≤ a2)))
   (some false)).bind fun c1 =>
 some (c1, ())
noncomputable def R_Bits_L3 (rec : (((Unit) × (Unit) × (Int × Unit) × Unit) × ((Ad × Unit) × List Int × Unit)) → Option (((Unit) × (Unit) × Unit) × ((Ad × Unit) × List Int × Unit))) (x : (((Unit) × (Unit) × (Int × Unit) × Unit) × ((Ad × Unit) × List Int × Unit))) : Option (((Unit) × (Unit) × Unit) × ((Ad × Unit) × List Int × Unit)) :=
 let v0 := x.1.2.2.1.1
 let v1 := x.2.1.1
 let v2 := x.2.2.1
 br (decide (v0 ≥ 0))
  (req (decide (0 ≤ v0)) <|
  req (room (lenL v2) (lenL ([convI .u8 (aop .add .u64 48 (aop .rem .u64 (aop .shr .u64 v1.hi v0) 2))] : List Int))) <|
  req (i64ok (v0 - 1)) <|
  rec (((()), (()), (v0 - 1, ()), ()), ((v1, ()), v2 ++ ([convI .u8 (aop .add .u64 48 (aop .rem .u64 (aop .shr .u64 v1.hi v0) 2))] : List Int), ())))
  (some (((()), (()), ()), ((v1, ()), v2, ())))
noncomputable def R_Bits_L7 (rec : (((Unit) × (Unit) × (Int × Unit) × Unit) × ((Ad × Unit) × List Int × Unit)) → Option (((Unit) × (Unit) × Unit) × ((Ad × Unit) × List Int × Unit))) (x : (((Unit) × (Unit) × (Int × Unit) × Unit) × ((Ad × Unit) × List Int × Unit))) : Option (((Unit) × (Unit) × Unit) × ((Ad × Unit) × List Int × Unit)) :=
 let v0 := x.1.2.2.1.1
 let v1 := x.2.1.1
 let v2 := x.2.2.1
 br (decide (v0 ≥ 0))
  (req (decide (0 ≤ v0)) <|
  req (room (lenL v2) (lenL ([convI .u8 (aop .add .u64 48 (aop .rem .u64 (aop .shr .u64 v1.lo v0) 2))] : List Int))) <|
  req (i64ok (v0 - 1)) <|
  rec (((()), (()), (v0 - 1, ()), ()), ((v1, ()), v2 ++ ([convI .u8 (aop .add .u64 48 (aop .rem .u64 (aop .shr .u64 v1.lo v0) 2))] : List Int), ())))
  (some (((()), (()), ()), ((v1, ()), v2, ())))
noncomputable def R_Bits_t (a0 : Ad) : Option (ByteArray × Unit) :=
 (loopN R_Bits_L3 FUEL (((()), (()), (63, ()), ()), ((a0, ()), ([] : List Int), ()))).bind fun y1 =>
 (loopN R_Bits_L7 FUEL (((()), (()), (63, ()), ()), ((y1.2.1.1, ()), y1.2.2.1, ()))).bind fun y2 =>
 br (!y2.2.1.1.v6)
  (req ((decide (96 ≤ lenL y2.2.2.1)) && (decide (lenL y2.2.2.1 ≤ lenL y2.2.2.1))) <|
  some (bytesOf (subL y2.2.2.1 96 (lenL y2.2.2.1)), ()))
  (some (bytesOf y2.2.2.1, ()))
noncomputable def R_CheckPrefix_L8 (rec : (((ByteArray × Unit) × (Int × Unit) × Unit) × (Unit)) → Option ((((Int × Unit) × Unit) × (Unit)) ⊕ ((Unit) × (Unit)))) (x : (((ByteArray × Unit) × (Int × Unit) × Unit) × (Unit))) : Option ((((Int × Unit) × Unit) × (Unit)) ⊕ ((Unit) × (Unit))) :=
 let v0 := x.1.1.1
 let v1 := x.1.2.1.1
 br (decide (v1 < lenS v0))
  (req (inRange v1 (lenS v0)) <|
  br (!decide (byteAt v0 v1 = 48))
   (some (Sum.inl (((4, ()), ()), (()))))
   (req (i64ok (v1 + 1)) <|
   rec (((v0, ()), (v1 + 1, ()), ()), (()))))
  (some (Sum.inr (((()), (())))))
noncomputable def R_CheckPrefix_t (a0 : Pf) : Option (Int × Unit) :=
 (R_CheckAddr_t a0.ad).bind fun y1 =>
 br (!decide (y1.1 = 0))
  (some (y1.1, ()))
  ((R_wide_t a0.ad).bind fun y2 =>
  (R_between_t a0.bits 0 y2.1).bind fun y3 =>
  br (!y3.1)
   (some (3, ()))
   ((R_Bits_t a0.ad).bind fun y4 =>
   (loopN R_CheckPrefix_L8 FUEL (((y4.1, ()), (a0.bits, ()), ()), (()))).bind fun y5 =>
   sumC y5 (fun y6 =>
    some (y6.1.1.1, ())) (fun y7 =>
    some (0, ()))))
noncomputable def R_numberOf_L3 (rec : (((ByteArray × Unit) × (Int × Unit) × (Int × Unit) × Unit) × (Unit)) → Option (((Int × Unit) × Unit) × (Unit))) (x : (((ByteArray × Unit) × (Int × Unit) × (Int × Unit) × Unit) × (Unit))) : Option (((Int × Unit) × Unit) × (Unit)) :=
 let v0 := x.1.1.1
 let v1 := x.1.2.1.1
 let v2 := x.1.2.2.1.1
 br (decide (v2 < lenS v0))
  (req (i64ok (2 * v1)) <|
  req (inRange v2 (lenS v0)) <|
  req (i64ok ((2 * v1) + (convI .i64 (byteAt v0 v2)))) <|
  req (i64ok (((2 * v1) + (convI .i64 (byteAt v0 v2))) - 48)) <|
  req (i64ok (v2 + 1)) <|
  rec (((v0, ()), (((2 * v1) + (convI .i64 (byteAt v0 v2))) - 48, ()), (v2 + 1, ()), ()), (())))
  (some (((v1, ()), ()), (())))
noncomputable def R_numberOf_t (a0 : ByteArray) : Option (Int × Unit) :=
 (loopN R_numberOf_L3 FUEL (((a0, ()), (0, ()), (0, ()), ()), (()))).bind fun y1 =>
 some (y1.1.1.1, ())
noncomputable def R_Digits_step (R_Digits_rec_t : Int → Int → Option (ByteArray × Unit)) (a0 : Int) (a1 : Int) : Option (ByteArray × Unit) :=
 req (!(decide (a1 = 0))) <|
 req (!(decide (a1 = 0))) <|
 req (i64ok ((aop .rem .i64 a0 a1) + 1)) <|
 req (((decide (0 ≤ aop .rem .i64 a0 a1)) && (decide (aop .rem .i64 a0 a1 ≤ (aop .rem .i64 a0 a1) + 1))) && (decide ((aop .rem .i64 a0 a1) + 1 ≤ lenS (⟨#[48, 49, 50, 51, 52, 53, 54, 55, 56, 57, 97, 98, 99, 100, 101, 102]⟩ : ByteArray)))) <|
 br (decide (a0 < a1))
  (some (subS (⟨#[48, 49, 50, 51, 52, 53, 54, 55, 56, 57, 97, 98, 99, 100, 101, 102]⟩ : ByteArray) (aop .rem .i64 a0 a1) ((aop .rem .i64 a0 a1) + 1), ()))
  (req (!(decide (a1 = 0))) <|
  (R_Digits_rec_t (aop .quo .i64 a0 a1) a1).bind fun y1 =>
  req (roomS (catS y1.1 (subS (⟨#[48, 49, 50, 51, 52, 53, 54, 55, 56, 57, 97, 98, 99, 100, 101, 102]⟩ : ByteArray) (aop .rem .i64 a0 a1) ((aop .rem .i64 a0 a1) + 1)))) <|
  some (catS y1.1 (subS (⟨#[48, 49, 50, 51, 52, 53, 54, 55, 56, 57, 97, 98, 99, 100, 101, 102]⟩ : ByteArray) (aop .rem .i64 a0 a1) ((aop .rem .i64 a0 a1) + 1)), ()))
noncomputable def R_Digits_fuel : Nat → Int → Int → Option (ByteArray × Unit)
 | 0 => fun _ _ => none
 | n + 1 => R_Digits_step (R_Digits_fuel n)
noncomputable def R_Digits_t : Int → Int → Option (ByteArray × Unit) := R_Digits_fuel RECN
noncomputable def R_TextOf_L6 (rec : (((ByteArray × Unit) × (Unit) × (Int × Unit) × Unit) × (List Int × Unit)) → Option (((Unit) × Unit) × (List Int × Unit))) (x : (((ByteArray × Unit) × (Unit) × (Int × Unit) × Unit) × (List Int × Unit))) : Option (((Unit) × Unit) × (List Int × Unit)) :=
 let v0 := x.1.1.1
 let v1 := x.1.2.2.1.1
 let v2 := x.2.1
 br (decide (v1 < 8))
  (req (i64ok (16 * v1)) <|
  req (i64ok (16 * v1)) <|
  req (i64ok ((16 * v1) + 16)) <|
  req (((decide (0 ≤ 16 * v1)) && (decide (16 * v1 ≤ (16 * v1) + 16))) && (decide ((16 * v1) + 16 ≤ lenS v0))) <|
  (R_numberOf_t (subS v0 (16 * v1) ((16 * v1) + 16))).bind fun y1 =>
  req ((inRange v1 8) && (Nat.beq v2.length 8)) <|
  (geti v2 v1).bind fun p2 =>
  req (i64ok (v1 + 1)) <|
  rec (((v0, ()), (()), (v1 + 1, ()), ()), (seti v2 v1 y1.1, ())))
  (some (((()), ()), (v2, ())))
noncomputable def R_TextOf_L14 (rec : (((Unit) × (Int × Unit) × (Int × Unit) × (Int × Unit) × (Int × Unit) × Unit) × (List Int × Unit)) → Option (((Unit) × (Int × Unit) × (Int × Unit) × (Int × Unit) × (Int × Unit) × Unit) × (List Int × Unit))) (x : (((Unit) × (Int × Unit) × (Int × Unit) × (Int × Unit) × (Int × Unit) × Unit) × (List Int × Unit))) : Option (((Unit) × (Int × Unit) × (Int × Unit) × (Int × Unit) × (Int × Unit) × Unit) × (List Int × Unit)) :=
 let v0 := x.1.2.1.1
 let v1 := x.1.2.2.1.1
 let v2 := x.1.2.2.2.1.1
 let v3 := x.1.2.2.2.2.1.1
 let v4 := x.2.1
 req (i64ok (v2 + v3)) <|
 (br (decide (v2 + v3 < 8))
   (req (i64ok (v2 + v3)) <|
   req ((inRange (v2 + v3) 8) && (Nat.beq v4.length 8)) <|
   (geti v4 (v2 + v3)).bind fun p1 =>
   some (decide (p1 = 0)))
   (some false)).bind fun c1 =>
 br c1
  (req (i64ok (v3 + 1)) <|
  rec (((()), (v0, ()), (v1, ()), (v2, ()), (v3 + 1, ()), ()), (v4, ())))
  (some (((()), (v0, ()), (v1, ()), (v2, ()), (v3, ()), ()), (v4, ())))
noncomputable def R_TextOf_L11 (rec : (((Unit) × (Int × Unit) × (Int × Unit) × (Int × Unit) × Unit) × (List Int × Unit)) → Option (((Unit) × (Int × Unit) × (Int × Unit) × Unit) × (List Int × Unit))) (x : (((Unit) × (Int × Unit) × (Int × Unit) × (Int × Unit) × Unit) × (List Int × Unit))) : Option (((Unit) × (Int × Unit) × (Int × Unit) × Unit) × (List Int × Unit)) :=
 let v0 := x.1.2.1.1
 let v1 := x.1.2.2.1.1
 let v2 := x.1.2.2.2.1.1
 let v3 := x.2.1
 br (decide (v2 < 8))
  ((loopN R_TextOf_L14 FUEL (((()), (v0, ()), (v1, ()), (v2, ()), (0, ()), ()), (v3, ()))).bind fun y1 =>
  br (decide (y1.1.2.2.2.2.1.1 > y1.1.2.2.1.1))
   (req (i64ok (y1.1.2.2.2.1.1 + 1)) <|
   rec (((()), (y1.1.2.2.2.1.1, ()), (y1.1.2.2.2.2.1.1, ()), (y1.1.2.2.2.1.1 + 1, ()), ()), (y1.2.1, ())))
   (req (i64ok (y1.1.2.2.2.1.1 + 1)) <|
   rec (((()), (y1.1.2.1.1, ()), (y1.1.2.2.1.1, ()), (y1.1.2.2.2.1.1 + 1, ()), ()), (y1.2.1, ()))))
  (some (((()), (v0, ()), (v1, ()), ()), (v3, ())))
noncomputable def R_TextOf_L20 (rec : (((Unit) × (Int × Unit) × (Int × Unit) × (ByteArray × Unit) × (Int × Unit) × Unit) × (List Int × Unit)) → Option (((ByteArray × Unit) × Unit) × (Unit))) (x : (((Unit) × (Int × Unit) × (Int × Unit) × (ByteArray × Unit) × (Int × Unit) × Unit) × (List Int × Unit))) : Option (((ByteArray × Unit) × Unit) × (Unit)) :=
 let v0 := x.1.2.1.1
 let v1 := x.1.2.2.1.1
 let v2 := x.1.2.2.2.1.1
 let v3 := x.1.2.2.2.2.1.1
 let v4 := x.2.1
 br (decide (v3 < 8))
  (br (decide (v3 = v0))
   (req (roomS (catS v2 (⟨#[58, 58]⟩ : ByteArray))) <|
   req (i64ok (v1 - 1)) <|
   req (i64ok (v3 + (v1 - 1))) <|
   req (i64ok ((v3 + (v1 - 1)) + 1)) <|
   rec (((()), (v0, ()), (v1, ()), (catS v2 (⟨#[58, 58]⟩ : ByteArray), ()), ((v3 + (v1 - 1)) + 1, ()), ()), (v4, ())))
   ((br (strcmp .neq v2 (ByteArray.empty))
     (req (i64ok ((lenS v2) - 1)) <|
     req (inRange ((lenS v2) - 1) (lenS v2)) <|
     some (!decide (byteAt v2 ((lenS v2) - 1) = 58)))
     (some false)).bind fun c1 =>
   br c1
    (req (roomS (catS v2 (⟨#[58]⟩ : ByteArray))) <|
    req ((inRange v3 8) && (Nat.beq v4.length 8)) <|
    (geti v4 v3).bind fun p2 =>
    (R_Digits_t p2 16).bind fun y3 =>
    req (roomS (catS (catS v2 (⟨#[58]⟩ : ByteArray)) y3.1)) <|
    req (i64ok (v3 + 1)) <|
    rec (((()), (v0, ()), (v1, ()), (catS (catS v2 (⟨#[58]⟩ : ByteArray)) y3.1, ()), (v3 + 1, ()), ()), (v4, ())))
    (req ((inRange v3 8) && (Nat.beq v4.length 8)) <|
    (geti v4 v3).bind fun p2 =>
    (R_Digits_t p2 16).bind fun y3 =>
    req (roomS (catS v2 y3.1)) <|
    req (i64ok (v3 + 1)) <|
    rec (((()), (v0, ()), (v1, ()), (catS v2 y3.1, ()), (v3 + 1, ()), ()), (v4, ())))))
  (some (((v2, ()), ()), (())))
noncomputable def R_TextOf_t (a0 : Ad) : Option (ByteArray × Unit) :=
 (R_Bits_t a0).bind fun y1 =>
 br (!a0.v6)
  (req (true && (decide (8 ≤ lenS y1.1))) <|
  (R_numberOf_t (subS y1.1 0 8)).bind fun y2 =>
  (R_Digits_t y2.1 10).bind fun y3 =>
  req (roomS (catS y3.1 (⟨#[46]⟩ : ByteArray))) <|
  req (true && (decide (16 ≤ lenS y1.1))) <|
  (R_numberOf_t (subS y1.1 8 16)).bind fun y4 =>
  (R_Digits_t y4.1 10).bind fun y5 =>
  req (roomS (catS (catS y3.1 (⟨#[46]⟩ : ByteArray)) y5.1)) <|
  req (roomS (catS (catS (catS y3.1 (⟨#[46]⟩ : ByteArray)) y5.1) (⟨#[46]⟩ : ByteArray))) <|
  req (true && (decide (24 ≤ lenS y1.1))) <|
  (R_numberOf_t (subS y1.1 16 24)).bind fun y6 =>
  (R_Digits_t y6.1 10).bind fun y7 =>
  req (roomS (catS (catS (catS (catS y3.1 (⟨#[46]⟩ : ByteArray)) y5.1) (⟨#[46]⟩ : ByteArray)) y7.1)) <|
  req (roomS (catS (catS (catS (catS (catS y3.1 (⟨#[46]⟩ : ByteArray)) y5.1) (⟨#[46]⟩ : ByteArray)) y7.1) (⟨#[46]⟩ : ByteArray))) <|
  req ((decide (24 ≤ lenS y1.1)) && (decide (lenS y1.1 ≤ lenS y1.1))) <|
  (R_numberOf_t (subS y1.1 24 (lenS y1.1))).bind fun y8 =>
  (R_Digits_t y8.1 10).bind fun y9 =>
  req (roomS (catS (catS (catS (catS (catS (catS y3.1 (⟨#[46]⟩ : ByteArray)) y5.1) (⟨#[46]⟩ : ByteArray)) y7.1) (⟨#[46]⟩ : ByteArray)) y9.1)) <|
  some (catS (catS (catS (catS (catS (catS y3.1 (⟨#[46]⟩ : ByteArray)) y5.1) (⟨#[46]⟩ : ByteArray)) y7.1) (⟨#[46]⟩ : ByteArray)) y9.1, ()))
  ((loopN R_TextOf_L6 FUEL (((y1.1, ()), (()), (0, ()), ()), (([0, 0, 0, 0, 0, 0, 0, 0] : List Int), ()))).bind fun y2 =>
  (loopN R_TextOf_L11 FUEL (((()), ((-1), ()), (1, ()), (0, ()), ()), (y2.2.1, ()))).bind fun y3 =>
  (loopN R_TextOf_L20 FUEL (((()), (y3.1.2.1.1, ()), (y3.1.2.2.1.1, ()), ((ByteArray.empty), ()), (0, ()), ()), (y3.2.1, ()))).bind fun y4 =>
  some (y4.1.1.1, ()))
noncomputable def R_PrefixText_t (a0 : Pf) : Option (ByteArray × Unit) :=
 (R_TextOf_t a0.ad).bind fun y1 =>
 req (roomS (catS y1.1 (⟨#[47]⟩ : ByteArray))) <|
 (R_Digits_t a0.bits 10).bind fun y2 =>
 req (roomS (catS (catS y1.1 (⟨#[47]⟩ : ByteArray)) y2.1)) <|
 some (catS (catS y1.1 (⟨#[47]⟩ : ByteArray)) y2.1, ())
noncomputable def R_AddrOf_L3 (rec : (((ByteArray × Unit) × (Unit) × (Unit) × (Int × Unit) × Unit) × ((Ad × Unit) × (Ad × Unit) × Unit)) → Option (((Unit) × (Unit) × Unit) × ((Ad × Unit) × (Ad × Unit) × Unit))) (x : (((ByteArray × Unit) × (Unit) × (Unit) × (Int × Unit) × Unit) × ((Ad × Unit) × (Ad × Unit) × Unit))) : Option (((Unit) × (Unit) × Unit) × ((Ad × Unit) × (Ad × Unit) × Unit)) :=
 let v0 := x.1.1.1
 let v1 := x.1.2.2.2.1.1
 let v2 := x.2.1.1
 let v3 := x.2.2.1.1
 br (decide (v1 < lenS v0))
  (req (inRange v1 (lenS v0)) <|
  req (i64ok ((lenS v0) - v1)) <|
  br (decide ((lenS v0) - v1 > 64))
   (req (i64ok (v1 + 1)) <|
   rec (((v0, ()), (()), (()), (v1 + 1, ()), ()), ((v2, ()), ((⟨v3.v6, aop .add .u64 (aop .mul .u64 2 v3.hi) (convI .u64 (aop .sub .u8 (byteAt v0 v1) 48)), v3.lo⟩ : Ad), ()), ())))
   (req (i64ok (v1 + 1)) <|
   rec (((v0, ()), (()), (()), (v1 + 1, ()), ()), ((v2, ()), ((⟨v3.v6, v3.hi, aop .add .u64 (aop .mul .u64 2 v3.lo) (convI .u64 (aop .sub .u8 (byteAt v0 v1) 48))⟩ : Ad), ()), ()))))
  (some (((()), (()), ()), ((v2, ()), (v3, ()), ())))
noncomputable def R_AddrOf_t (a0 : ByteArray) : Option (Ad × Unit) :=
 (loopN R_AddrOf_L3 FUEL (((a0, ()), (()), (()), (0, ()), ()), (((⟨false, 0, 0⟩ : Ad), ()), ((⟨decide (lenS a0 = 128), 0, 0⟩ : Ad), ()), ()))).bind fun y1 =>
 some (y1.2.2.1.1, ())
noncomputable def R_filled_L2 (rec : (((ByteArray × Unit) × (Unit) × (Unit) × (ByteArray × Unit) × Unit) × ((Pf × Unit) × (Ad × Unit) × Unit)) → Option (((Unit) × (ByteArray × Unit) × Unit) × ((Ad × Unit) × Unit))) (x : (((ByteArray × Unit) × (Unit) × (Unit) × (ByteArray × Unit) × Unit) × ((Pf × Unit) × (Ad × Unit) × Unit))) : Option (((Unit) × (ByteArray × Unit) × Unit) × ((Ad × Unit) × Unit)) :=
 let v0 := x.1.1.1
 let v1 := x.1.2.2.2.1.1
 let v2 := x.2.1.1
 let v3 := x.2.2.1.1
 (R_wide_t v2.ad).bind fun y1 =>
 br (decide (lenS v1 < y1.1))
  (req (roomS (catS v1 v0)) <|
  rec (((v0, ()), (()), (()), (catS v1 v0, ()), ()), ((v2, ()), (v3, ()), ())))
  (some (((()), (v1, ()), ()), ((v3, ()), ())))
noncomputable def R_filled_t (a0 : Pf) (a1 : ByteArray) : Option (Ad × Unit) :=
 (R_Bits_t a0.ad).bind fun y1 =>
 req ((decide (0 ≤ a0.bits)) && (decide (a0.bits ≤ lenS y1.1))) <|
 (loopN R_filled_L2 FUEL (((a1, ()), (()), (()), (subS y1.1 0 a0.bits, ()), ()), ((a0, ()), ((⟨false, 0, 0⟩ : Ad), ()), ()))).bind fun y2 =>
 (R_AddrOf_t y2.1.2.1.1).bind fun y3 =>
 some (y3.1, ())
noncomputable def R_LastOf_t (a0 : Pf) : Option (Ad × Unit) :=
 (R_filled_t a0 (⟨#[49]⟩ : ByteArray)).bind fun y1 =>
 some (y1.1, ())
noncomputable def R_splitAt_L4 (rec : (((ByteArray × Unit) × (Int × Unit) × (Unit) × (ByteArray × Unit) × (Int × Unit) × Unit) × (List ByteArray × Unit)) → Option (((Unit) × (ByteArray × Unit) × Unit) × (List ByteArray × Unit))) (x : (((ByteArray × Unit) × (Int × Unit) × (Unit) × (ByteArray × Unit) × (Int × Unit) × Unit) × (List ByteArray × Unit))) : Option (((Unit) × (ByteArray × Unit) × Unit) × (List ByteArray × Unit)) :=
 let v0 := x.1.1.1
 let v1 := x.1.2.1.1
 let v2 := x.1.2.2.2.1.1
 let v3 := x.1.2.2.2.2.1.1
 let v4 := x.2.1
 br (decide (v3 < lenS v0))
  (req (inRange v3 (lenS v0)) <|
  br (decide (byteAt v0 v3 = v1))
   (req (room (lenL v4) (lenL ([v2] : List ByteArray))) <|
   req (i64ok (v3 + 1)) <|
   rec (((v0, ()), (v1, ()), (()), ((ByteArray.empty), ()), (v3 + 1, ()), ()), (v4 ++ ([v2] : List ByteArray), ())))
   (req (i64ok (v3 + 1)) <|
   req (((decide (0 ≤ v3)) && (decide (v3 ≤ v3 + 1))) && (decide (v3 + 1 ≤ lenS v0))) <|
   req (roomS (catS v2 (subS v0 v3 (v3 + 1)))) <|
   req (i64ok (v3 + 1)) <|
   rec (((v0, ()), (v1, ()), (()), (catS v2 (subS v0 v3 (v3 + 1)), ()), (v3 + 1, ()), ()), (v4, ()))))
  (some (((()), (v2, ()), ()), (v4, ())))
noncomputable def R_splitAt_t (a0 : ByteArray) (a1 : Int) : Option ((List ByteArray) × Unit) :=
 (loopN R_splitAt_L4 FUEL (((a0, ()), (a1, ()), (()), ((ByteArray.empty), ()), (0, ()), ()), (([] : List ByteArray), ()))).bind fun y1 =>
 req (room (lenL y1.2.1) (lenL ([y1.1.2.1.1] : List ByteArray))) <|
 some (y1.2.1 ++ ([y1.1.2.1.1] : List ByteArray), ())
noncomputable def R_bitsOf_step (R_bitsOf_rec_t : Int → Int → Option (ByteArray × Unit)) (a0 : Int) (a1 : Int) : Option (ByteArray × Unit) :=
 br (decide (a1 = 0))
  (some ((ByteArray.empty), ()))
  (req (i64ok (a1 - 1)) <|
  (R_bitsOf_rec_t (aop .quo .i64 a0 2) (a1 - 1)).bind fun y1 =>
  (R_Digits_t (aop .rem .i64 a0 2) 2).bind fun y2 =>
  req (roomS (catS y1.1 y2.1)) <|
  some (catS y1.1 y2.1, ()))
noncomputable def R_bitsOf_fuel : Nat → Int → Int → Option (ByteArray × Unit)
 | 0 => fun _ _ => none
 | n + 1 => R_bitsOf_step (R_bitsOf_fuel n)
noncomputable def R_bitsOf_t : Int → Int → Option (ByteArray × Unit) := R_bitsOf_fuel RECN
noncomputable def R_fourOf_L10 (rec : (((Unit) × (ByteArray × Unit) × (Int × Unit) × (Int × Unit) × (Int × Unit) × Unit) × (List ByteArray × Unit)) → Option ((((ByteArray × Unit) × (Bool × Unit) × Unit) × (Unit)) ⊕ (((Unit) × (ByteArray × Unit) × (Int × Unit) × (Int × Unit) × Unit) × (List ByteArray × Unit)))) (x : (((Unit) × (ByteArray × Unit) × (Int × Unit) × (Int × Unit) × (Int × Unit) × Unit) × (List ByteArray × Unit))) : Option ((((ByteArray × Unit) × (Bool × Unit) × Unit) × (Unit)) ⊕ (((Unit) × (ByteArray × Unit) × (Int × Unit) × (Int × Unit) × Unit) × (List ByteArray × Unit))) :=
 let v0 := x.1.2.1.1
 let v1 := x.1.2.2.1.1
 let v2 := x.1.2.2.2.1.1
 let v3 := x.1.2.2.2.2.1.1
 let v4 := x.2.1
 req (inRange v1 (lenL v4)) <|
 (geti v4 v1).bind fun p1 =>
 br (decide (v3 < lenS p1))
  (req (inRange v1 (lenL v4)) <|
  (geti v4 v1).bind fun p2 =>
  req (inRange v3 (lenS p2)) <|
  (R_between_t (convI .i64 (byteAt p2 v3)) 48 57).bind fun y3 =>
  (br (!y3.1)
    (some true)
    (some (decide (v2 > 255)))).bind fun c4 =>
  br c4
   (some (Sum.inl ((((ByteArray.empty), ()), (false, ()), ()), (()))))
   (req (i64ok (10 * v2)) <|
   req (inRange v1 (lenL v4)) <|
   (geti v4 v1).bind fun p5 =>
   req (inRange v3 (lenS p5)) <|
   req (i64ok ((10 * v2) + (convI .i64 (byteAt p5 v3)))) <|
   req (i64ok (((10 * v2) + (convI .i64 (byteAt p5 v3))) - 48)) <|
   req (i64ok (v3 + 1)) <|
   rec (((()), (v0, ()), (v1, ()), (((10 * v2) + (convI .i64 (byteAt p5 v3))) - 48, ()), (v3 + 1, ()), ()), (v4, ()))))
  (some (Sum.inr ((((()), (v0, ()), (v1, ()), (v2, ()), ()), (v4, ())))))
noncomputable def R_fourOf_L6 (rec : (((Unit) × (ByteArray × Unit) × (Int × Unit) × Unit) × (List ByteArray × Unit)) → Option ((((ByteArray × Unit) × (Bool × Unit) × Unit) × (Unit)) ⊕ (((ByteArray × Unit) × Unit) × (Unit)))) (x : (((Unit) × (ByteArray × Unit) × (Int × Unit) × Unit) × (List ByteArray × Unit))) : Option ((((ByteArray × Unit) × (Bool × Unit) × Unit) × (Unit)) ⊕ (((ByteArray × Unit) × Unit) × (Unit))) :=
 let v0 := x.1.2.1.1
 let v1 := x.1.2.2.1.1
 let v2 := x.2.1
 br (decide (v1 < 4))
  ((loopN R_fourOf_L10 FUEL (((()), (v0, ()), (v1, ()), (0, ()), (0, ()), ()), (v2, ()))).bind fun y1 =>
  sumC y1 (fun y2 =>
   some (Sum.inl (((y2.1.1.1, ()), (y2.1.2.1.1, ()), ()), (())))) (fun y3 =>
   req (inRange y3.1.2.2.1.1 (lenL y3.2.1)) <|
   (geti y3.2.1 y3.1.2.2.1.1).bind fun p4 =>
   (br (strcmp .eql p4 (ByteArray.empty))
     (some true)
     (some (decide (y3.1.2.2.2.1.1 > 255)))).bind fun c5 =>
   (br c5
     (some true)
     ((R_Digits_t y3.1.2.2.2.1.1 10).bind fun y6 =>
     req (inRange y3.1.2.2.1.1 (lenL y3.2.1)) <|
     (geti y3.2.1 y3.1.2.2.1.1).bind fun p7 =>
     some (strcmp .neq y6.1 p7))).bind fun c6 =>
   br c6
    (some (Sum.inl ((((ByteArray.empty), ()), (false, ()), ()), (()))))
    ((R_bitsOf_t y3.1.2.2.2.1.1 8).bind fun y7 =>
    req (roomS (catS y3.1.2.1.1 y7.1)) <|
    req (i64ok (y3.1.2.2.1.1 + 1)) <|
    rec (((()), (catS y3.1.2.1.1 y7.1, ()), (y3.1.2.2.1.1 + 1, ()), ()), (y3.2.1, ())))))
  (some (Sum.inr ((((v0, ()), ()), (())))))
noncomputable def R_fourOf_t (a0 : ByteArray) : Option (ByteArray × Bool × Unit) :=
 (R_splitAt_t a0 46).bind fun y1 =>
 br (!decide (lenL y1.1 = 4))
  (some ((ByteArray.empty), false, ()))
  ((loopN R_fourOf_L6 FUEL (((()), ((ByteArray.empty), ()), (0, ()), ()), (y1.1, ()))).bind fun y2 =>
  sumC y2 (fun y3 =>
   some (y3.1.1.1, y3.1.2.1.1, ())) (fun y4 =>
   some (y4.1.1.1, true, ())))
noncomputable def R_groupOf_L5 (rec : (((ByteArray × Unit) × (Int × Unit) × (Int × Unit) × Unit) × (Unit)) → Option ((((ByteArray × Unit) × (Bool × Unit) × Unit) × (Unit)) ⊕ (((Int × Unit) × Unit) × (Unit)))) (x : (((ByteArray × Unit) × (Int × Unit) × (Int × Unit) × Unit) × (Unit))) : Option ((((ByteArray × Unit) × (Bool × Unit) × Unit) × (Unit)) ⊕ (((Int × Unit) × Unit) × (Unit))) :=
 let v0 := x.1.1.1
 let v1 := x.1.2.1.1
 let v2 := x.1.2.2.1.1
 br (decide (v2 < lenS v0))
  (req (inRange v2 (lenS v0)) <|
  (R_between_t (convI .i64 (byteAt v0 v2)) 48 57).bind fun y1 =>
  br y1.1
   (req (i64ok (16 * v1)) <|
   req (i64ok ((16 * v1) + (convI .i64 (byteAt v0 v2)))) <|
   req (i64ok (((16 * v1) + (convI .i64 (byteAt v0 v2))) - 48)) <|
   req (i64ok (v2 + 1)) <|
   rec (((v0, ()), (((16 * v1) + (convI .i64 (byteAt v0 v2))) - 48, ()), (v2 + 1, ()), ()), (())))
   ((R_between_t (convI .i64 (byteAt v0 v2)) 97 102).bind fun y2 =>
   br y2.1
    (req (i64ok (16 * v1)) <|
    req (i64ok ((16 * v1) + (convI .i64 (byteAt v0 v2)))) <|
    req (i64ok (((16 * v1) + (convI .i64 (byteAt v0 v2))) - 97)) <|
    req (i64ok ((((16 * v1) + (convI .i64 (byteAt v0 v2))) - 97) + 10)) <|
    req (i64ok (v2 + 1)) <|
    rec (((v0, ()), ((((16 * v1) + (convI .i64 (byteAt v0 v2))) - 97) + 10, ()), (v2 + 1, ()), ()), (())))
    ((R_between_t (convI .i64 (byteAt v0 v2)) 65 70).bind fun y3 =>
    br y3.1
     (req (i64ok (16 * v1)) <|
     req (i64ok ((16 * v1) + (convI .i64 (byteAt v0 v2)))) <|
     req (i64ok (((16 * v1) + (convI .i64 (byteAt v0 v2))) - 65)) <|
     req (i64ok ((((16 * v1) + (convI .i64 (byteAt v0 v2))) - 65) + 10)) <|
     req (i64ok (v2 + 1)) <|
     rec (((v0, ()), ((((16 * v1) + (convI .i64 (byteAt v0 v2))) - 65) + 10, ()), (v2 + 1, ()), ()), (())))
     (some (Sum.inl ((((ByteArray.empty), ()), (false, ()), ()), (())))))))
  (some (Sum.inr ((((v1, ()), ()), (())))))
noncomputable def R_groupOf_t (a0 : ByteArray) : Option (ByteArray × Bool × Unit) :=
 (R_between_t (lenS a0) 1 4).bind fun y1 =>
 br (!y1.1)
  (some ((ByteArray.empty), false, ()))
  ((loopN R_groupOf_L5 FUEL (((a0, ()), (0, ()), (0, ()), ()), (()))).bind fun y2 =>
  sumC y2 (fun y3 =>
   some (y3.1.1.1, y3.1.2.1.1, ())) (fun y4 =>
   (R_bitsOf_t y4.1.1.1 16).bind fun y5 =>
   some (y5.1, true, ())))
noncomputable def R_groupsOf_L6 (rec : (((Bool × Unit) × (Unit) × (ByteArray × Unit) × (Int × Unit) × Unit) × (List ByteArray × Unit)) → Option ((((ByteArray × Unit) × (Bool × Unit) × Unit) × (Unit)) ⊕ (((ByteArray × Unit) × Unit) × (Unit)))) (x : (((Bool × Unit) × (Unit) × (ByteArray × Unit) × (Int × Unit) × Unit) × (List ByteArray × Unit))) : Option ((((ByteArray × Unit) × (Bool × Unit) × Unit) × (Unit)) ⊕ (((ByteArray × Unit) × Unit) × (Unit))) :=
 let v0 := x.1.1.1
 let v1 := x.1.2.2.1.1
 let v2 := x.1.2.2.2.1.1
 let v3 := x.2.1
 br (decide (v2 < lenL v3))
  (req (inRange v2 (lenL v3)) <|
  (geti v3 v2).bind fun p1 =>
  (R_groupOf_t p1).bind fun y2 =>
  (br (!y2.2.1)
    (some v0)
    (some false)).bind fun c3 =>
  (br c3
    (req (i64ok ((lenL v3) - 1)) <|
    some (decide (v2 = (lenL v3) - 1)))
    (some false)).bind fun c4 =>
  br c4
   (req (inRange v2 (lenL v3)) <|
   (geti v3 v2).bind fun p5 =>
   (R_fourOf_t p5).bind fun y6 =>
   br (!y6.2.1)
    (some (Sum.inl ((((ByteArray.empty), ()), (false, ()), ()), (()))))
    (req (roomS (catS v1 y6.1)) <|
    req (i64ok (v2 + 1)) <|
    rec (((v0, ()), (()), (catS v1 y6.1, ()), (v2 + 1, ()), ()), (v3, ()))))
   (br (!y2.2.1)
    (some (Sum.inl ((((ByteArray.empty), ()), (false, ()), ()), (()))))
    (req (roomS (catS v1 y2.1)) <|
    req (i64ok (v2 + 1)) <|
    rec (((v0, ()), (()), (catS v1 y2.1, ()), (v2 + 1, ()), ()), (v3, ())))))
  (some (Sum.inr ((((v1, ()), ()), (())))))
noncomputable def R_groupsOf_t (a0 : ByteArray) (a1 : Bool) : Option (ByteArray × Bool × Unit) :=
 br (strcmp .eql a0 (ByteArray.empty))
  (some ((ByteArray.empty), true, ()))
  ((R_splitAt_t a0 58).bind fun y1 =>
  (loopN R_groupsOf_L6 FUEL (((a1, ()), (()), ((ByteArray.empty), ()), (0, ()), ()), (y1.1, ()))).bind fun y2 =>
  sumC y2 (fun y3 =>
   some (y3.1.1.1, y3.1.2.1.1, ())) (fun y4 =>
   some (y4.1.1.1, true, ())))
noncomputable def R_ParseOf_L3 (rec : (((ByteArray × Unit) × (Unit) × (Bool × Unit) × (Int × Unit) × (Int × Unit) × Unit) × ((Ad × Unit) × Unit)) → Option (((ByteArray × Unit) × (Unit) × (Bool × Unit) × (Int × Unit) × Unit) × ((Ad × Unit) × Unit))) (x : (((ByteArray × Unit) × (Unit) × (Bool × Unit) × (Int × Unit) × (Int × Unit) × Unit) × ((Ad × Unit) × Unit))) : Option (((ByteArray × Unit) × (Unit) × (Bool × Unit) × (Int × Unit) × Unit) × ((Ad × Unit) × Unit)) :=
 let v0 := x.1.1.1
 let v1 := x.1.2.2.1.1
 let v2 := x.1.2.2.2.1.1
 let v3 := x.1.2.2.2.2.1.1
 let v4 := x.2.1.1
 br (decide (v3 ≥ 0))
  ((br v1
    (some true)
    (req (inRange v3 (lenS v0)) <|
    some (decide (byteAt v0 v3 = 58)))).bind fun c1 =>
  req (i64ok (v3 + 1)) <|
  (br (decide (v3 + 1 < lenS v0))
    (req (inRange v3 (lenS v0)) <|
    some (decide (byteAt v0 v3 = 58)))
    (some false)).bind fun c2 =>
  (br c2
    (req (i64ok (v3 + 1)) <|
    req (inRange (v3 + 1) (lenS v0)) <|
    some (decide (byteAt v0 (v3 + 1) = 58)))
    (some false)).bind fun c3 =>
  br c3
   (req (i64ok (v3 - 1)) <|
   rec (((v0, ()), (()), (c1, ()), (v3, ()), (v3 - 1, ()), ()), ((v4, ()), ())))
   (req (i64ok (v3 - 1)) <|
   rec (((v0, ()), (()), (c1, ()), (v2, ()), (v3 - 1, ()), ()), ((v4, ()), ()))))
  (some (((v0, ()), (()), (v1, ()), (v2, ()), ()), ((v4, ()), ())))
noncomputable def R_ParseOf_L23 (rec : (((Unit) × (ByteArray × Unit) × (ByteArray × Unit) × Unit) × ((Ad × Unit) × Unit)) → Option (((Unit) × (ByteArray × Unit) × (ByteArray × Unit) × Unit) × ((Ad × Unit) × Unit))) (x : (((Unit) × (ByteArray × Unit) × (ByteArray × Unit) × Unit) × ((Ad × Unit) × Unit))) : Option (((Unit) × (ByteArray × Unit) × (ByteArray × Unit) × Unit) × ((Ad × Unit) × Unit)) :=
 let v0 := x.1.2.1.1
 let v1 := x.1.2.2.1.1
 let v2 := x.2.1.1
 req (i64ok ((lenS v0) + (lenS v1))) <|
 br (decide ((lenS v0) + (lenS v1) < 128))
  (req (roomS (catS v0 (⟨#[48]⟩ : ByteArray))) <|
  rec (((()), (catS v0 (⟨#[48]⟩ : ByteArray), ()), (v1, ()), ()), ((v2, ()), ())))
  (some (((()), (v0, ()), (v1, ()), ()), ((v2, ()), ())))
noncomputable def R_ParseOf_t (a0 : ByteArray) : Option (Ad × Bool × Unit) :=
 req (i64ok ((lenS a0) - 1)) <|
 (loopN R_ParseOf_L3 FUEL (((a0, ()), (()), (false, ()), ((-1), ()), ((lenS a0) - 1, ()), ()), (((⟨false, 0, 0⟩ : Ad), ()), ()))).bind fun y1 =>
 br (!y1.1.2.2.1.1)
  ((R_fourOf_t y1.1.1.1).bind fun y2 =>
  br (!y2.2.1)
   (some ((⟨false, 0, 0⟩ : Ad), false, ()))
   ((R_AddrOf_t y2.1).bind fun y3 =>
   some (y3.1, true, ())))
  (br (decide (y1.1.2.2.2.1.1 < 0))
   ((R_groupsOf_t y1.1.1.1 true).bind fun y2 =>
   br (!y2.2.1)
    (some ((⟨false, 0, 0⟩ : Ad), false, ()))
    (br (!decide (lenS y2.1 = 128))
     (some ((⟨false, 0, 0⟩ : Ad), false, ()))
     ((R_AddrOf_t y2.1).bind fun y3 =>
     some (y3.1, true, ()))))
   (req ((decide (0 ≤ y1.1.2.2.2.1.1)) && (decide (y1.1.2.2.2.1.1 ≤ lenS y1.1.1.1))) <|
   (R_groupsOf_t (subS y1.1.1.1 0 y1.1.2.2.2.1.1) false).bind fun y2 =>
   req (i64ok (y1.1.2.2.2.1.1 + 2)) <|
   req (((decide (0 ≤ y1.1.2.2.2.1.1 + 2)) && (decide (y1.1.2.2.2.1.1 + 2 ≤ lenS y1.1.1.1))) && (decide (lenS y1.1.1.1 ≤ lenS y1.1.1.1))) <|
   (R_groupsOf_t (subS y1.1.1.1 (y1.1.2.2.2.1.1 + 2) (lenS y1.1.1.1)) true).bind fun y3 =>
   (br (!y2.2.1)
     (some true)
     (some (!y3.2.1))).bind fun c4 =>
   (br c4
     (some true)
     (req (i64ok ((lenS y2.1) + (lenS y3.1))) <|
     some (decide ((lenS y2.1) + (lenS y3.1) > 112)))).bind fun c5 =>
   br c5
    (some ((⟨false, 0, 0⟩ : Ad), false, ()))
    ((loopN R_ParseOf_L23 FUEL (((()), (y2.1, ()), (y3.1, ()), ()), ((y1.2.1.1, ()), ()))).bind fun y6 =>
    req (roomS (catS y6.1.2.1.1 y6.1.2.2.1.1)) <|
    br (!decide (lenS (catS y6.1.2.1.1 y6.1.2.2.1.1) = 128))
     (some ((⟨false, 0, 0⟩ : Ad), false, ()))
     ((R_AddrOf_t (catS y6.1.2.1.1 y6.1.2.2.1.1)).bind fun y7 =>
     some (y7.1, true, ())))))
noncomputable def R_NumberOf_L5 (rec : (((ByteArray × Unit) × (Int × Unit) × (Int × Unit) × Unit) × (Unit)) → Option ((((Int × Unit) × (Bool × Unit) × Unit) × (Unit)) ⊕ (((ByteArray × Unit) × (Int × Unit) × Unit) × (Unit)))) (x : (((ByteArray × Unit) × (Int × Unit) × (Int × Unit) × Unit) × (Unit))) : Option ((((Int × Unit) × (Bool × Unit) × Unit) × (Unit)) ⊕ (((ByteArray × Unit) × (Int × Unit) × Unit) × (Unit))) :=
 let v0 := x.1.1.1
 let v1 := x.1.2.1.1
 let v2 := x.1.2.2.1.1
 br (decide (v2 < lenS v0))
  (req (inRange v2 (lenS v0)) <|
  (R_between_t (convI .i64 (byteAt v0 v2)) 48 57).bind fun y1 =>
  br (!y1.1)
   (some (Sum.inl (((0, ()), (false, ()), ()), (()))))
   (req (i64ok (10 * v1)) <|
   req (inRange v2 (lenS v0)) <|
   req (i64ok ((10 * v1) + (convI .i64 (byteAt v0 v2)))) <|
   req (i64ok (((10 * v1) + (convI .i64 (byteAt v0 v2))) - 48)) <|
   req (i64ok (v2 + 1)) <|
   rec (((v0, ()), (((10 * v1) + (convI .i64 (byteAt v0 v2))) - 48, ()), (v2 + 1, ()), ()), (()))))
  (some (Sum.inr ((((v0, ()), (v1, ()), ()), (())))))
noncomputable def R_NumberOf_t (a0 : ByteArray) : Option (Int × Bool × Unit) :=
 (R_between_t (lenS a0) 1 4).bind fun y1 =>
 br (!y1.1)
  (some (0, false, ()))
  ((loopN R_NumberOf_L5 FUEL (((a0, ()), (0, ()), (0, ()), ()), (()))).bind fun y2 =>
  sumC y2 (fun y3 =>
   some (y3.1.1.1, y3.1.2.1.1, ())) (fun y4 =>
   (R_Digits_t y4.1.2.1.1 10).bind fun y5 =>
   some (y4.1.2.1.1, strcmp .eql y5.1 y4.1.1.1, ())))
noncomputable def R_PrefixOf_t (a0 : ByteArray) : Option (Pf × Int × Unit) :=
 (R_splitAt_t a0 47).bind fun y1 =>
 br (!decide (lenL y1.1 = 2))
  (some ((⟨(⟨false, 0, 0⟩ : Ad), 0⟩ : Pf), 1, ()))
  (req (inRange 0 (lenL y1.1)) <|
  (geti y1.1 0).bind fun p2 =>
  (R_ParseOf_t p2).bind fun y3 =>
  req (inRange 1 (lenL y1.1)) <|
  (geti y1.1 1).bind fun p4 =>
  (R_NumberOf_t p4).bind fun y5 =>
  (br (!y3.2.1)
    (some true)
    (some (!y5.2.1))).bind fun c6 =>
  br c6
   (some ((⟨(⟨false, 0, 0⟩ : Ad), 0⟩ : Pf), 1, ()))
   ((R_CheckPrefix_t (⟨y3.1, y5.1⟩ : Pf)).bind fun y7 =>
   br (!decide (y7.1 = 0))
    (some ((⟨(⟨false, 0, 0⟩ : Ad), 0⟩ : Pf), y7.1, ()))
    (some ((⟨y3.1, y5.1⟩ : Pf), y7.1, ()))))
noncomputable def law_v4_t (a0 : Int) : Option (Ad × Unit) :=
 some ((⟨false, 0, a0⟩ : Ad), ())
noncomputable def law_net_t (a0 : Int) (a1 : Int) : Option (Pf × Unit) :=
 (law_v4_t a0).bind fun y1 =>
 some ((⟨y1.1, a1⟩ : Pf), ())
noncomputable def R_HasAddr_t (a0 : Pf) (a1 : Ad) : Option (Bool × Unit) :=
 (br (beqB a0.ad.v6 a1.v6)
   ((R_Bits_t a0.ad).bind fun y1 =>
   req ((decide (0 ≤ a0.bits)) && (decide (a0.bits ≤ lenS y1.1))) <|
   (R_Bits_t a1).bind fun y2 =>
   req ((decide (0 ≤ a0.bits)) && (decide (a0.bits ≤ lenS y2.1))) <|
   some (strcmp .eql (subS y1.1 0 a0.bits) (subS y2.1 0 a0.bits)))
   (some false)).bind fun c1 =>
 some (c1, ())
noncomputable def R_HasPrefix_t (a0 : Pf) (a1 : Pf) : Option (Bool × Unit) :=
 (br (decide (a0.bits ≤ a1.bits))
   ((R_HasAddr_t a0 a1.ad).bind fun y1 =>
   some y1.1)
   (some false)).bind fun c1 =>
 some (c1, ())
end Go.Ma
namespace Go.Ma
open Go
def zq5 (s sep : ByteArray) : Option (Int × Unit) := match sep.data.toList with | [c] => some (Lib.indexByte s.data.toList c, ()) | _ => none
def plainB (b : UInt8) : Bool := !(b == 43) && !(b == 45) && !(b == 95)
def strconv_Itoa_t (n : Int) : Option (ByteArray × Unit) := req (decide (0 ≤ n) && decide (n < 1000000)) (some (⟨(Lib.decDigits n.toNat).toArray⟩, ()))
def strings_Join_t (l : List ByteArray) (sep : ByteArray) : Option (ByteArray × Unit) :=
 req (Nat.ble l.length 1024 && Nat.ble (Lib.join (l.map (·.data.toList)) sep.data.toList).length 1099511627776) (some (⟨(Lib.join (l.map (·.data.toList)) sep.data.toList).toArray⟩, ()))
def digN (s : ByteArray) : Int := match Lib.atoiAll s.data.toList with | .ok v => v | .range => Lib.atoiSat s.data.toList | _ => 0
def digB (s : ByteArray) : Bool := match Lib.atoiAll s.data.toList with | .ok v => decide (0 ≤ v) && (decide (s.size ≤ 4) && ((⟨(Lib.decDigits v.toNat).toArray⟩ : ByteArray) == s)) | _ => false
def prefix_Digits_t (s : ByteArray) : Option (Int × Bool × Unit) := req (Nat.ble s.size 1073741824) (some (digN s, digB s, ()))
end Go.Ma
namespace Go.Ma
open Go
def lowQ (c : UInt8) : Int := bits .or .u8 (c.toNat : Int) 32
def hexv (c : UInt8) : Option Nat :=
 if 48 ≤ c.toNat ∧ c.toNat ≤ 57 then some (c.toNat - 48) else if 97 ≤ lowQ c ∧ lowQ c ≤ 102 then some ((lowQ c).toNat - 87) else none
def hexF : List UInt8 → Nat → Option Nat
 | [], a => some a
 | c :: r, a => match hexv c with
  | none => none
  | some d => if 4294967295 < a * 16 + d then none else hexF r (a * 16 + d)
inductive HexEnd (et : TypeId) (l : List UInt8) (a : Nat) (u : Int) (ev : Value) : Prop
 | ok {n : Nat} (h : hexF l a = some n) (hu : u = n := by rfl) (he : ev = .nilIface := by rfl) : HexEnd et l a u ev
 | bad (h : hexF l a = none) (he : ev = .iface et (.int .i64 2) ∨ ev = .iface et (.int .i64 1)) : HexEnd et l a u ev
def hexU (s : ByteArray) : Option Nat := if s.size = 0 then none else hexF s.data.toList 0
def decU (s : ByteArray) : Option Nat := match Lib.parseUintB 32 s.data.toList with
 | .ok u => some u
 | _ => none
def numU (base : Int) (s : ByteArray) : Option Nat := if base = 10 then decU s else hexU s
def partF (s : ByteArray) (base digits most : Int) : Option Int :=
 if s.data.toList.all plainB = true then
  match numU base s with
  | none => none
  | some u => if digits < s.size ∨ most < u ∨ (base = 10 ∧ 1 < s.size ∧ s.data.toList.head? = some 48) then none else some (u : Int)
 else none
end Go.Ma
namespace Go.Ma
open Go
def splitOn (s : ByteArray) (c : UInt8) : List ByteArray := Lib.splitB ⟨#[c]⟩ 0 (Lib.countB s ⟨#[c]⟩) s
def fourL : List ByteArray → Int → Option Int
 | [], n => some n
 | x :: r, n => match partF x 10 3 255 with
  | none => none
  | some u => fourL r (aop .or .u64 (aop .shl .u64 n 8) u)
def fourF (s : ByteArray) : Option Int := if (splitOn s 46).length = 4 then fourL (splitOn s 46) 0 else none
def dotIn (x : ByteArray) : Bool := decide (0 ≤ Lib.indexByte x.data.toList 46)
def someL (last : Bool) (len : Nat) : List ByteArray → Nat → List Int → Option (List Int)
 | [], _, out => some out
 | x :: r, i, out => if last = true ∧ i + 1 = len ∧ dotIn x = true then
   match fourF x with
   | none => none
   | some n => someL last len r (i + 1) (out ++ [n / 65536, aop .and .u64 n 65535])
  else
   match partF x 16 4 65535 with
   | none => none
   | some u => someL last len r (i + 1) (out ++ [u])
def someF (s : ByteArray) (last : Bool) : Option (List Int) := if s.size = 0 then some [] else someL last (splitOn s 58).length (splitOn s 58) 0 []
def packI : List Int → Int → Int
 | [], h => h
 | x :: r, h => packI r (aop .or .u64 (aop .shl .u64 h 16) x)
def packA (l : List Int) : Ad := ⟨true, packI (l.take 4) 0, packI ((l.drop 4).take 4) 0⟩
def cut1 (s : ByteArray) : ByteArray := ⟨(Lib.cut s.data.toList [58, 58]).1.toArray⟩
def cut2 (s : ByteArray) : ByteArray := ⟨(Lib.cut s.data.toList [58, 58]).2.1.toArray⟩
def cut3 (s : ByteArray) : Bool := (Lib.cut s.data.toList [58, 58]).2.2
def sixteenF (s : ByteArray) : Option Ad :=
 if cut3 s = true then
  match someF (cut1 s) false with
  | none => none
  | some l => match someF (cut2 s) true with
   | none => none
   | some m => if 7 < l.length + m.length then none else some (packA (l ++ List.replicate (8 - l.length - m.length) 0 ++ m))
 else match someF s true with
  | none => none
  | some l => if l.length = 8 then some (packA l) else none
end Go.Ma
namespace Go.Ma
open Go
def hexD (d : Nat) : UInt8 := if d < 10 then UInt8.ofNat (48 + d) else UInt8.ofNat (87 + d)
def hex4 (n : Nat) : List UInt8 :=
 if n < 16 then [hexD n] else if n < 256 then [hexD (n / 16), hexD (n % 16)] else if n < 4096 then [hexD (n / 256), hexD (n / 16 % 16), hexD (n % 16)] else [hexD (n / 4096), hexD (n / 256 % 16), hexD (n / 16 % 16), hexD (n % 16)]
def dec3 (n : Nat) : List UInt8 :=
 if n < 10 then [UInt8.ofNat (48 + n)] else if n < 100 then [UInt8.ofNat (48 + n / 10), UInt8.ofNat (48 + n % 10)] else [UInt8.ofNat (48 + n / 100), UInt8.ofNat (48 + n / 10 % 10), UInt8.ofNat (48 + n % 10)]
theorem hex4_step (u : Nat) (h : 16 ≤ u) (h2 : u < 65536) : hex4 u = hex4 (u / 16) ++ [hexD (u % 16)] := by
 unfold hex4
 rw [if_neg (by omega : ¬ u < 16)]
 by_cases h3 : u < 256
 ·rw [if_pos h3, if_pos (by omega)]; rfl
 ·rw [if_neg h3, if_neg (by omega : ¬ u / 16 < 16)]
  by_cases h4 : u < 4096
  ·rw [if_pos h4, if_pos (by omega), show u / 16 / 16 = u / 256 by omega]; rfl
  ·rw [if_neg h4, if_neg (by omega), if_pos (by omega), show u / 16 / 256 = u / 4096 by omega, show u / 16 / 16 % 16 = u / 256 % 16 by omega]; rfl
theorem dec3_eq (n : Nat) (h : n < 1000) : Lib.decDigits n = dec3 n := by
 unfold dec3
 by_cases h1 : n < 10
 ·rw [if_pos h1, Lib.decDigits, dif_pos h1]
 ·rw [if_neg h1, Lib.decDigits, dif_neg h1]
  by_cases h2 : n < 100
  ·rw [if_pos h2, Lib.decDigits, dif_pos (by omega)]; rfl
  ·rw [if_neg h2, Lib.decDigits, dif_neg (by omega), Lib.decDigits, dif_pos (by omega), show n / 10 / 10 = n / 100 by omega]; rfl
def zq8 (n b : Int) : Option (ByteArray × Unit) :=
 if b = 16 then req (decide (0 ≤ n) && decide (n < 65536)) (some (⟨(hex4 n.toNat).toArray⟩, ()))
 else req (decide (b = 10) && (decide (0 ≤ n) && decide (n < 256))) (some (⟨(dec3 n.toNat).toArray⟩, ()))
end Go.Ma
namespace Go.Ma
open Go
def colonIn (s : ByteArray) : Bool := decide (0 ≤ Lib.indexByte s.data.toList 58)
def toldF (s : ByteArray) : Option Ad := if colonIn s = true then sixteenF s else (fourF s).map fun u => ⟨false, 0, u⟩
def toldA (s : ByteArray) : Ad := match toldF s with | some a => a | none => ⟨false, 0, 0⟩
def addr_told_t (s : ByteArray) : Option (Ad × Bool × Unit) := req (Nat.ble s.size 4294967200) (some (toldA s, (toldF s).isSome, ()))
end Go.Ma
