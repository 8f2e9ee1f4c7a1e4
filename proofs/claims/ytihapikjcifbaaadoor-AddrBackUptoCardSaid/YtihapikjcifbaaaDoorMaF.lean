/-
  THE MACHINE, part F: a function's call out of its body; typed arguments and results; contracts.
-/
import Derived.Test.YtihapikjcifbaaaDoorMaI
namespace Go.Ma
open Go Go.RowKit

section
variable {T : Nat → TI}
theorem lt_of_take {n : Nat} {cs l : List SV} {off k : Nat} (h : takeCells cs off k = some l) {ty : TypeId} {own : Bool} (hb : (Obj.blk cs ty own).lt n = true) : ltL n l = true := by
  obtain ⟨rfl, _, _, hone⟩ := takeCells_spec h
  simp only [Obj.lt, List.all_eq_true, Bool.or_eq_true] at hb
  rw [ltL_all, List.all_eq_true]
  exact fun c hc => (hb c (List.mem_of_mem_drop (List.mem_of_mem_take hc))).resolve_left (by simp [one_any (hone c hc)])
theorem valOf_lt {n : Nat} {ti : TI} {l : List SV} {v : SV} (h : valOf ti l = some v) (hl : ltL n l = true) : v.lt n = true := by
  unfold valOf at h
  split at h
  · injection h with h; subst h; simpa [SV.lt] using hl
  · split at h
    · injection h with h; subst h; simpa [ltL] using hl
    · cases h
def resRun (tmps : Array Value) : ResultVar → Sem Value
  | .tmp t => pure (tmps.getD t undef)
  | .cell a t => do loadVar t (← asAddr (tmps.getD a undef))
theorem results_eq (fn : Func) (tmps : Array Value) : results fn tmps = (do let vs ← fn.results.mapM (resRun tmps); pure (if h : vs.size = 1 then vs[0] else .tuple vs)) := by
  unfold results resRun
  rfl
theorem resC_ok {P : Program} (hT : TOk P T) {W : World} {ρ : Nat → Value} {s : St} {a : Act} {w : World} (hs : RelS W ρ s a w) {r : ResultVar} {v : SV} (h : resC T s r = some v) :
    (resRun a.tmps r).run P w = .ok (den ρ v) w ∧ v.lt s.m.length = true := by
  cases r with
  | tmp t =>
    simp only [resC] at h
    split at h
    · cases h
    · rename_i hany
      injection h with h
      subst h
      obtain ⟨h1, h2⟩ := hs.t.ev (.tmp t) (by simpa [ev] using hany)
      simp only [ev, Act.eval] at h1 h2
      exact ⟨by simp [resRun, h2], h1⟩
  | cell ad ty =>
    simp only [resC] at h
    split at h
    · rename_i j off hj
      split at h
      · rename_i cs bt own hm
        split at h
        · rename_i hk
          obtain ⟨l, hl, hv⟩ := Option.bind_eq_some_iff.1 h
          have h2 := (hs.t.ev (.tmp ad) (by simp only [ev]; rw [hj]; rfl)).2
          simp only [ev, Act.eval, hj] at h2
          obtain ⟨b, arr, hb, hh, _, hc⟩ := hs.m.blk hm
          simp only [den, hb, ptrOff, add_zero_addr, Nat.zero_add] at h2
          obtain ⟨_, hlen, hget, hone⟩ := takeCells_spec hl
          have hrun := run_loadVar (hT.ty ty hk) (w := w) (a := ⟨b, off, none⟩) (ρ := ρ) hlen hv (fun i c hi => by
            rw [add_zero_addr, cells_of_blk hh]
            have hil : i < (T ty).size := by rw [← hlen]; exact (List.getElem?_eq_some_iff.1 hi).1
            have := hget i hil
            rw [hi] at this
            exact hc _ c this (one_any (hone c (List.mem_of_getElem? hi))))
          exact ⟨by simp [resRun, h2, asAddr, hrun], valOf_lt hv (lt_of_take hl (hs.m.lt j _ hm))⟩
        · cases h
      · cases h
    · cases h
theorem resL_ok {P : Program} (hT : TOk P T) {W : World} {ρ : Nat → Value} {s : St} {a : Act} {w : World} (hs : RelS W ρ s a w) : ∀ {rs : List ResultVar} {l : List SV}, resL T s rs = some l →
    (rs.mapM (resRun a.tmps)).run P w = .ok (denL ρ l) w ∧ ltL s.m.length l = true
  | [], l, h => by simp only [resL, Option.some.injEq] at h; subst h; exact ⟨by simp [denL], rfl⟩
  | r :: rs, l, h => by
    simp only [resL] at h
    split at h
    · rename_i v l' hv hl
      injection h with h
      subst h
      obtain ⟨h1, h2⟩ := resC_ok hT hs hv
      obtain ⟨h3, h4⟩ := resL_ok hT hs hl
      refine ⟨?_, by simp [ltL, h2, h4]⟩
      rw [List.mapM_cons, Sem.run_bind, h1]
      simp only [Result.andThen_ok, Sem.run_bind, h3, Sem.run_pure, denL]
    · cases h
end

/-- **A CALL OUT OF ITS BODY.** -/
theorem calls_of_ix {P : Program} {W : World} {E : Env} {X : Type} (hE : EnvOkW P E W) {f : FuncId} {fn : Func} {args : List SV} {m : Mem} {k : SV → Mem → Option X} {x : X} (hf : P.funcs[f]? = some fn)
    (hl : ∀ c, fn.body = some c → LoopsOk P E c) (hlt : ltL m.length args = true) (h : ixF E fn args m k = some x) {ρ : Nat → Value} {w : World} (hm : RelM W ρ m w) :
    Calls P f (denL ρ args).toArray w fun e w' => ∃ ρ' r m', e = .returned (den ρ' r) ∧ RelM W ρ' m' w' ∧ Agree m.length ρ ρ' ∧ m.length ≤ m'.length ∧ (r.isAny = false → r.lt m'.length = true) ∧ k r m' = some x := by
  have hT := hE.T
  have hend : ∀ ρ' (s' : St) a' w', Agree m.length ρ ρ' → m.length ≤ s'.m.length → RelS W ρ' s' a' w' → fin E.T fn.results.toList k s' = some x →
      a'.defers = [] ∧ ∃ v, (results fn a'.tmps).run P w' = .ok v w' ∧ ∃ ρ'' r m', Ending.returned v = .returned (den ρ'' r) ∧ RelM W ρ'' m' w' ∧ Agree m.length ρ ρ'' ∧ m.length ≤ m'.length ∧ (r.isAny = false → r.lt m'.length = true) ∧ k r m' = some x := by
    intro ρ' s' a' w' hag hle hs' hfin
    refine ⟨hs'.d, ?_⟩
    unfold fin at hfin
    have hrun : ∀ l, resL E.T s' fn.results.toList = some l → (results fn a'.tmps).run P w' = .ok (if h : (denL ρ' l).toArray.size = 1 then (denL ρ' l).toArray[0] else .tuple (denL ρ' l).toArray) w' ∧ ltL s'.m.length l = true := by
      intro l hl
      obtain ⟨h1, h2⟩ := resL_ok hT hs' hl
      refine ⟨?_, h2⟩
      rw [results_eq, Sem.run_bind, Array.mapM_eq_mapM_toList, Sem.run_map, h1]
      rfl
    split at hfin
    · rename_i v hv
      obtain ⟨h1, h2⟩ := hrun _ hv
      refine ⟨_, h1, ρ', v, s'.m, ?_, hs'.m, hag, hle, fun _ => by simpa [ltL] using h2, hfin⟩
      simp [denL]
    · rename_i l hne hl
      obtain ⟨h1, h2⟩ := hrun _ hl
      refine ⟨_, h1, ρ', .tup l, s'.m, ?_, hs'.m, hag, hle, fun _ => by simpa [SV.lt] using h2, hfin⟩
      have : l.length ≠ 1 := by
        intro h
        match l, h with
        | [v], _ => exact hne v rfl
      simp [denL_length, this, den]
    · cases hfin
  unfold ixF at h
  split at h
  · rename_i c hb
    refine calls_of_wp hf hb ?_
    refine (ix_ok hE c _ _ _ _ (hl c hb) h).code (Nat.le_refl _) ρ _ w _ ⟨⟨?_, ?_⟩, hm, rfl⟩ (fun ρ' s' a' w' hag hle hs' hk => hend ρ' s' a' w' hag hle hs' hk) (fun i ρ' s' a' w' _ _ _ hk => by cases hk) (fun ρ' s' a' w' hag hle hs' hk => hend ρ' s' a' w' hag hle hs' hk)
    · simp
    · intro i sv hi hs
      rw [List.getElem?_append] at hi
      split at hi
      · rename_i hil
        rw [ltL_all, List.all_eq_true] at hlt
        refine ⟨hlt sv (List.mem_of_getElem? hi), ?_⟩
        rw [Array.getElem?_append_left (by simpa using hil), List.getElem?_toArray, denL_map, List.getElem?_map, hi]
        rfl
      · have := List.mem_of_getElem? hi
        simp only [List.mem_replicate] at this
        rw [this.2] at hs
        cases hs
  · cases h

/-- The callee is entered in place. -/
noncomputable def inlCon (E : Env) (fn : Func) : Con := { tr := fun _ args m k => ixF E fn args m k, q := false, law := false }
theorem inl_ok {P : Program} {E : Env} (hE : EnvOk P E) {f : FuncId} {fn : Func} (hf : P.funcs[f]? = some fn) (hl : ∀ c, fn.body = some c → LoopsOk P E c) : TrOk P f (inlCon E fn) :=
  ⟨fun _ hG _ _ _ _ _ h _ => ⟨fun hlt _ _ hm => calls_of_ix ⟨hE, hG⟩ hf hl hlt h hm⟩, fun h => (by cases h), fun h => by cases h⟩

/-! ### Typed arguments and results. -/
inductive Seg where
  | fl (k : K)
  | row (k : K) (ty : TypeId)
def Seg.T : Seg → Type
  | .fl k => k.T
  | .row k _ => List k.T
def SegsT : List Seg → Type
  | [] => Unit
  | s :: r => s.T × SegsT r
/-- A parameter: one value; a struct; a variable behind a pointer, that is only read. -/
inductive PS where
  | one (s : Seg)
  | agg (l : List Seg)
  | ref (l : List Seg) (ty : TypeId)
def PS.T : PS → Type
  | .one s => s.T
  | .agg l => SegsT l
  | .ref l _ => SegsT l
def PsT : List PS → Type
  | [] => Unit
  | p :: r => p.T × PsT r

/-- The row that a value is. -/
def rdRow (m : Mem) (k : K) : SV → Option (List k.T)
  | .row j => (match m[j]? with | some (.row (.ty k' l) _ _) => if h : k' = k then some (castL h l) else none | _ => none)
  | .v (.slice none 0 0) => some []
  | _ => none
def decSegs (m : Mem) : (l : List Seg) → List SV → Option (SegsT l)
  | [], [] => some ()
  | [], _ :: _ => none
  | .fl k :: r, cs => match k.dec (cs.take k.sz), decSegs m r (cs.drop k.sz) with | some a, some b => some (a, b) | _, _ => none
  | .row _ _ :: _, [] => none
  | .row k _ :: r, c :: cs => match rdRow m k c, decSegs m r cs with | some a, some b => some (a, b) | _, _ => none
def decFl (k : K) (v : SV) : Option k.T := bif k.isAgg then v.parts.bind k.dec else k.dec [v]
def decSeg (m : Mem) : (s : Seg) → SV → Option s.T
  | .fl k, v => decFl k v
  | .row k _, v => rdRow m k v
/-- The cells of the variable behind a pointer. -/
def blkOf (m : Mem) (ty : TypeId) : SV → Option (List SV)
  | .ptr j 0 => (match m[j]? with | some (.blk cs bt _) => if bt == ty && cs.all (fun c => !c.isAny) then some cs else none | _ => none)
  | _ => none
def decP (m : Mem) : (p : PS) → SV → Option p.T
  | .one s, v => decSeg m s v
  | .agg l, v => v.parts.bind (decSegs m l)
  | .ref l ty, v => (blkOf m ty v).bind (decSegs m l)
def decA (m : Mem) : (ps : List PS) → List SV → Option (PsT ps)
  | [], [] => some ()
  | p :: r, v :: vs => match decP m p v, decA m r vs with | some a, some b => some (a, b) | _, _ => none
  | _, _ => none

/-- The value, and its rows as new objects, from number n on. -/
def encSegs (own : Bool) : (l : List Seg) → SegsT l → Nat → List SV × Mem
  | [], _, _ => ([], [])
  | .fl k :: r, x, n => (k.enc x.1 ++ (encSegs own r x.2 n).1, (encSegs own r x.2 n).2)
  | .row k ty :: r, x, n => (.row n :: (encSegs own r x.2 (n + 1)).1, .row (.ty k x.1) ty own :: (encSegs own r x.2 (n + 1)).2)
def flV (k : K) (a : k.T) : SV := bif k.isAgg then .agg (k.enc a) else (k.enc a).headD .any
def encSeg (own : Bool) : (s : Seg) → s.T → Nat → SV × Mem
  | .fl k, x, _ => (flV k x, [])
  | .row k ty, x, n => (.row n, [.row (.ty k x) ty own])
def encP (own : Bool) : (p : PS) → p.T → Nat → SV × Mem
  | .one s, x, n => encSeg own s x n
  | .agg l, x, n => (.agg (encSegs own l x n).1, (encSegs own l x n).2)
  | .ref l ty, x, n => (.ptr n 0, .blk (encSegs own l x (n + 1)).1 ty own :: (encSegs own l x (n + 1)).2)
def encA (own : Bool) : (ps : List PS) → PsT ps → Nat → List SV × Mem
  | [], _, _ => ([], [])
  | p :: r, x, n => ((encP own p x.1 n).1 :: (encA own r x.2 (n + (encP own p x.1 n).2.length)).1, (encP own p x.1 n).2 ++ (encA own r x.2 (n + (encP own p x.1 n).2.length)).2)

theorem fl_den (ρ ρ' : Nat → Value) {k : K} {v : SV} {a : k.T} (h : decFl k v = some a) : den ρ' (flV k a) = den ρ v ∧ ∀ n, (flV k a).lt n = true := by
  have hd := denL_enc ρ ρ' k a
  have hl : ∀ n, ltL n (k.enc a) = true := fun n => by cases k <;> rfl
  unfold decFl at h
  unfold flV
  cases hk : k.isAgg
  · rw [hk] at h
    simp only [cond_false] at h ⊢
    obtain ⟨h1, _⟩ := dec_enc k _ a h
    rw [← h1] at hd hl ⊢
    simp only [denL, List.cons.injEq, and_true] at hd
    exact ⟨hd, fun n => by simpa [ltL] using hl n⟩
  · rw [hk] at h
    simp only [cond_true] at h ⊢
    obtain ⟨l, hv, h⟩ := Option.bind_eq_some_iff.1 h
    obtain ⟨h1, _⟩ := dec_enc k _ a h
    unfold SV.parts at hv
    split at hv
    · injection hv with hv
      subst hv
      refine ⟨?_, fun n => hl n⟩
      simp only [den]
      rw [hd, h1]
    · cases hv

/-- A naming that gives the objects from n on these values. -/
def Gives (ρ : Nat → Value) (n : Nat) (vs : List Value) : Prop := ∀ i v, vs[i]? = some v → ρ (n + i) = v
theorem Gives.tail {ρ : Nat → Value} {n : Nat} {v : Value} {vs : List Value} (h : Gives ρ n (v :: vs)) : Gives ρ (n + 1) vs := fun i u hu => by
  have := h (i + 1) u (by simpa using hu)
  rw [show n + 1 + i = n + (i + 1) by omega]
  exact this
theorem Gives.head {ρ : Nat → Value} {n : Nat} {v : Value} {vs : List Value} (h : Gives ρ n (v :: vs)) : ρ n = v := h 0 v rfl
theorem Gives.left {ρ : Nat → Value} {n : Nat} {vs us : List Value} (h : Gives ρ n (vs ++ us)) : Gives ρ n vs := fun i u hu => h i u (by
  have := (List.getElem?_eq_some_iff.1 hu).1
  rw [List.getElem?_append_left this]; exact hu)
theorem Gives.right {ρ : Nat → Value} {n : Nat} {vs us : List Value} (h : Gives ρ n (vs ++ us)) : Gives ρ (n + vs.length) us := fun i u hu => by
  rw [Nat.add_assoc]
  exact h (vs.length + i) u (by rw [List.getElem?_append_right (by omega)]; simpa using hu)

/-- The row that a value is, as the world has it. -/
theorem rdRow_ok {W : World} {ρ : Nat → Value} {m : Mem} {w : World} (hm : RelM W ρ m w) {k : K} {v : SV} {l : List k.T} (h : rdRow m k v = some l) : RowIs w (den ρ v) l.length k.sz (l.flatMap fun a => denL ρ (k.enc a)) ∧ (∃ A n c, den ρ v = .slice A n c) := by
  unfold rdRow at h
  split at h
  · rename_i j
    split at h
    · rename_i k' l' ty own hj
      split at h
      · rename_i hk
        subst hk
        injection h with h
        subst h
        obtain ⟨hs0, A, cap, hρ, hlen, hnone, hn, hcap, h0, hcell⟩ := RelM.row hm hj
        refine ⟨⟨hlen, A, cap, by simp only [den, hρ, sliceVal]; rfl, hn, hcap, hnone, fun a ha => ⟨?_, hcell a ha⟩⟩, A, (C.ty k' l').n, cap, by simp only [den, hρ, sliceVal]⟩
        exact ObjIs.lt_heap (v := ρ j) (by rw [hρ, ha]; rfl) rfl (hm.obj j _ hj)
      · cases h
    · cases h
  · injection h with h
    subst h
    refine ⟨⟨by simp, none, 0, rfl, Nat.le_refl _, by unfold maxLen; omega, fun _ => rfl, fun a ha => by cases ha⟩, none, 0, 0, rfl⟩
  · cases h
theorem flat_one (ρ : Nat → Value) (k : K) (l : List k.T) : ∀ u ∈ (l.flatMap fun a => denL ρ (k.enc a)), oneC u = true := by
  intro u hu
  simp only [List.mem_flatMap, denL_map, List.mem_map] at hu
  obtain ⟨a, _, c, hc, rfl⟩ := hu
  exact one_den (enc_one k a c hc)
theorem row_obj {W w : World} {ρ ρ' : Nat → Value} {v : Value} {k : K} {l : List k.T} (ty : TypeId) (h : RowIs w v l.length k.sz (l.flatMap fun a => denL ρ (k.enc a))) : ObjIs W w ρ' v (.row (.ty k l) ty false) := by
  have e : (C.ty k l).den ρ' = (l.flatMap fun a => denL ρ (k.enc a)) := by simp only [C.den]; congr 1; funext a; exact denL_enc ρ ρ' k a
  refine ⟨(sz_pos k : 0 < k.sz), fun u hu => ?_, ?_⟩
  · rw [e] at hu; exact flat_one ρ k l u hu
  · rw [if_neg (by simp), e]; exact h
theorem enc_lt (k : K) (a : k.T) (n : Nat) : ltL n (k.enc a) = true := by cases k <;> rfl

/-- What the typed arguments are, for the callee: the same values, the slices and variables as objects of its own that it only reads. -/
structure ArgsOk (w : World) (ρ : Nat → Value) (n : Nat) (vals : List Value) (svs : List SV) (os : Mem) (vs : List Value) : Prop where
  len : vs.length = os.length
  den : ∀ ρ', Gives ρ' n vs → denL ρ' svs = vals
  obj : ∀ W ρ', Gives ρ' n vs → ∀ (i : Nat) (o : Obj) (v : Value), os[i]? = some o → vs[i]? = some v → ObjIs W w ρ' v o ∧ o.mutB = false
  lt : ltL (n + os.length) svs = true ∧ ∀ o ∈ os, o.lt (n + os.length) = true
theorem ArgsOk.nil (w : World) (ρ : Nat → Value) (n : Nat) : ArgsOk w ρ n [] [] [] [] := ⟨rfl, fun _ _ => rfl, fun _ _ _ i o v h => by simp at h, rfl, fun o h => by cases h⟩
theorem ArgsOk.app {w : World} {ρ : Nat → Value} {n : Nat} {vals vals' : List Value} {svs svs' : List SV} {os os' : Mem} {vs vs' : List Value} (h : ArgsOk w ρ n vals svs os vs) (h' : ArgsOk w ρ (n + os.length) vals' svs' os' vs') :
    ArgsOk w ρ n (vals ++ vals') (svs ++ svs') (os ++ os') (vs ++ vs') := by
  refine ⟨by simp [h.len, h'.len], fun ρ' hg => ?_, fun W ρ' hg i o v hi hv => ?_, ?_, ?_⟩
  · rw [denL_map, List.map_append, ← denL_map, ← denL_map, h.den ρ' hg.left, h'.den ρ' (by rw [← h.len]; exact hg.right)]
  · by_cases hil : i < os.length
    · rw [List.getElem?_append_left hil] at hi
      rw [List.getElem?_append_left (by rw [h.len]; exact hil)] at hv
      exact h.obj W ρ' hg.left i o v hi hv
    · rw [List.getElem?_append_right (by omega)] at hi
      rw [List.getElem?_append_right (by rw [h.len]; omega), h.len] at hv
      exact h'.obj W ρ' (by rw [← h.len]; exact hg.right) _ o v hi hv
  · have h1 := ltL_mono (show n + os.length ≤ n + (os ++ os').length by simp) svs h.lt.1
    have h2 := ltL_mono (show n + os.length + os'.length ≤ n + (os ++ os').length by simp; omega) svs' h'.lt.1
    simp only [ltL_all, List.all_append, Bool.and_eq_true] at *
    exact ⟨h1, h2⟩
  · intro o ho
    rcases List.mem_append.1 ho with ho | ho
    · exact Obj.lt_mono (by simp) o (h.lt.2 o ho)
    · exact Obj.lt_mono (by simp; omega) o (h'.lt.2 o ho)

section
variable {W : World} {ρ : Nat → Value} {m : Mem} {w : World} (hm : RelM W ρ m w)
include hm
theorem decSegs_ok : ∀ (l : List Seg) (cs : List SV) (x : SegsT l) (n : Nat), decSegs m l cs = some x → ∃ vs, ArgsOk w ρ n (denL ρ cs) (encSegs false l x n).1 (encSegs false l x n).2 vs
  | [], [], x, n, _ => ⟨[], ArgsOk.nil w ρ n⟩
  | [], _ :: _, x, n, h => by simp [decSegs] at h
  | .fl k :: r, cs, x, n, h => by
    simp only [decSegs] at h
    split at h
    · rename_i a b ha hb
      injection h with h
      subst h
      obtain ⟨h1, _⟩ := dec_enc k _ a ha
      obtain ⟨vs, hv⟩ := decSegs_ok r _ b n hb
      have h0 : ArgsOk w ρ n (denL ρ (cs.take k.sz)) (k.enc a) [] [] := ⟨rfl, fun ρ' _ => by rw [h1]; exact denL_enc ρ ρ' k a, fun _ _ _ i o v h => by simp at h, enc_lt k a _, fun o h => by cases h⟩
      refine ⟨vs, ?_⟩
      have this := h0.app hv
      have e : denL ρ (cs.take k.sz) ++ denL ρ (cs.drop k.sz) = denL ρ cs := by
        rw [denL_map, denL_map, ← List.map_append, List.take_append_drop, ← denL_map]
      rw [e] at this
      exact this
    · cases h
  | .row _ _ :: _, [], x, n, h => by simp [decSegs] at h
  | .row k ty :: r, c :: cs, x, n, h => by
    simp only [decSegs] at h
    split at h
    · rename_i a b ha hb
      injection h with h
      subst h
      obtain ⟨hrow, A, N, cap, hs⟩ := rdRow_ok hm ha
      obtain ⟨vs, hv⟩ := decSegs_ok r _ b (n + 1) hb
      refine ⟨den ρ c :: vs, ?_⟩
      have h0 : ArgsOk w ρ n [den ρ c] [.row n] [.row (.ty k a) ty false] [den ρ c] := by
        refine ⟨rfl, fun ρ' hg => by simp [denL, den, hg.head, hs, sliceVal], fun W' ρ' hg i o v hi hv => ?_, by simp [ltL, SV.lt], fun o ho => by simp at ho; subst ho; rfl⟩
        cases i with
        | zero =>
          simp only [List.getElem?_cons_zero, Option.some.injEq] at hi hv
          subst hi hv
          exact ⟨row_obj ty hrow, rfl⟩
        | succ i => simp at hi
      exact h0.app hv
    · cases h
theorem decP_ok (p : PS) (v : SV) (x : p.T) (n : Nat) (h : decP m p v = some x) : ∃ vs, ArgsOk w ρ n [den ρ v] [(encP false p x n).1] (encP false p x n).2 vs := by
  cases p with
  | one s =>
    cases s with
    | fl k =>
      have hx : decFl k v = some x := h
      refine ⟨[], rfl, fun ρ' _ => ?_, fun _ _ _ i o v h => ?_, ?_, fun o ho => ?_⟩
      · have := (fl_den ρ ρ' hx).1
        show [den ρ' (flV k x)] = [den ρ v]
        rw [this]
      · have h : ([] : Mem)[i]? = some o := h
        simp at h
      · have := (fl_den ρ ρ hx).2 (n + 0)
        show (SV.lt (n + 0) (flV k x) && true) = true
        rw [this]
        rfl
      · have ho : o ∈ ([] : Mem) := ho
        cases ho
    | row k ty =>
      have hx : rdRow m k v = some x := h
      obtain ⟨hrow, A, N, cap, hs⟩ := rdRow_ok hm hx
      refine ⟨[den ρ v], rfl, fun ρ' hg => by simp [encP, encSeg, denL, den, hg.head, hs, sliceVal], fun W' ρ' hg i o u hi hv => ?_, by simp [encP, encSeg, ltL, SV.lt], fun o ho => ?_⟩
      rotate_left
      · have ho : o ∈ [Obj.row (.ty k x) ty false] := ho
        simp only [List.mem_singleton] at ho
        subst ho
        rfl
      have hi : [Obj.row (.ty k x) ty false][i]? = some o := hi
      cases i with
      | zero =>
        simp only [List.getElem?_cons_zero, Option.some.injEq] at hi hv
        subst hi hv
        exact ⟨row_obj ty hrow, rfl⟩
      | succ i => simp at hi
  | agg l =>
    have hx : v.parts.bind (decSegs m l) = some x := h
    obtain ⟨cs, hp, hx⟩ := Option.bind_eq_some_iff.1 hx
    unfold SV.parts at hp
    split at hp
    · injection hp with hp
      subst hp
      obtain ⟨vs, hv⟩ := decSegs_ok hm _ _ _ n hx
      refine ⟨vs, hv.len, fun ρ' hg => ?_, hv.obj, ?_, hv.lt.2⟩
      · have := hv.den ρ' hg
        simp only [encP, denL, den, this]
      · simpa [encP, ltL, SV.lt] using hv.lt.1
    · cases hp
  | ref l ty =>
    have hx : (blkOf m ty v).bind (decSegs m l) = some x := h
    obtain ⟨cs, hp, hx⟩ := Option.bind_eq_some_iff.1 hx
    unfold blkOf at hp
    split at hp
    · rename_i j
      split at hp
      · rename_i cs' bt own hj
        split at hp
        · rename_i hknown
          simp only [Bool.and_eq_true, beq_iff_eq] at hknown
          obtain ⟨rfl, hknown⟩ := hknown
          injection hp with hp
          subst hp
          obtain ⟨vs, hv⟩ := decSegs_ok hm _ _ _ (n + 1) hx
          obtain ⟨b, arr, hb, hh, hs, hcell⟩ := hm.blk hj
          have hdl : ∀ ρ', Gives ρ' (n + 1) vs → ∀ (i : Nat) (sv : SV), (encSegs false l x (n + 1)).1[i]? = some sv → arr[i]? = some (den ρ' sv) := by
            intro ρ' hg i sv hi
            have h1 := hv.den ρ' hg
            have h2 : (denL ρ' (encSegs false l x (n + 1)).1)[i]? = some (den ρ' sv) := by rw [denL_map, List.getElem?_map, hi]; rfl
            rw [h1, denL_map, List.getElem?_map] at h2
            obtain ⟨c, hc, hce⟩ := Option.map_eq_some_iff.1 h2
            rw [← hce]
            refine hcell i c hc ?_
            simpa using List.all_eq_true.1 hknown c (List.mem_of_getElem? hc)
          have hsl : arr.size = (encSegs false l x (n + 1)).1.length := by
            have h1 := hv.den (fun j => if j < n + 1 then Go.undef else vs.getD (j - (n + 1)) Go.undef) (fun i v hi => by
              show (if n + 1 + i < n + 1 then Go.undef else vs.getD (n + 1 + i - (n + 1)) Go.undef) = v
              rw [if_neg (by omega), show n + 1 + i - (n + 1) = i by omega, List.getD_eq_getElem?_getD, hi]; rfl)
            have h2 := congrArg List.length h1
            rw [denL_length, denL_length] at h2
            rw [hs, h2]
          have hvp : den ρ (.ptr j 0) = .pointer (some ⟨b, 0, none⟩) := by simp [den, hb, ptrOff, Addr.add]
          have hl1 : n + 1 + (encSegs false l x (n + 1)).2.length = n + ((encSegs false l x (n + 1)).2.length + 1) := by omega
          refine ⟨den ρ (.ptr j 0) :: vs, by simp [encP, hv.len], fun ρ' hg => ?_, fun W' ρ' hg i o u hi hu => ?_, ?_, fun o ho => ?_⟩
          · have := hg.head
            simp only [encP, denL, den, this, hb]
            simp [ptrOff, Addr.add]
          · have hi : (Obj.blk (encSegs false l x (n + 1)).1 bt false :: (encSegs false l x (n + 1)).2)[i]? = some o := hi
            cases i with
            | zero =>
              simp only [List.getElem?_cons_zero, Option.some.injEq] at hi hu
              subst hi hu
              exact ⟨⟨b, arr, hvp, fun h => Bool.noConfusion h, hh, hsl, fun i sv hi _ => hdl ρ' hg.tail i sv hi⟩, rfl⟩
            | succ i =>
              exact hv.obj W' ρ' hg.tail i o u (by simpa using hi) (by simpa using hu)
          · have : (n : Nat) < n + ((encSegs false l x (n + 1)).2.length + 1) := by omega
            simp [encP, ltL, SV.lt]
          · have ho : o ∈ (Obj.blk (encSegs false l x (n + 1)).1 bt false :: (encSegs false l x (n + 1)).2) := ho
            have hlen : n + (encP false (PS.ref l bt) x n).2.length = n + 1 + (encSegs false l x (n + 1)).2.length := by simp [encP]; omega
            rw [hlen]
            rcases List.mem_cons.1 ho with rfl | ho
            · have := hv.lt.1
              simp only [Obj.lt, List.all_eq_true, Bool.or_eq_true]
              rw [ltL_all, List.all_eq_true] at this
              exact fun c hc => .inr (this c hc)
            · exact hv.lt.2 o ho
        · cases hp
      · cases hp
    · cases hp
end
end Go.Ma
