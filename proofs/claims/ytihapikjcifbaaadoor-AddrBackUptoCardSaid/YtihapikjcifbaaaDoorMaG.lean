/-
  THE MACHINE, part G: contracts: a function of typed arguments and results at a call.
-/
import Derived.Test.YtihapikjcifbaaaDoorMaF
namespace Go.Ma
open Go Go.RowKit

section
variable {W : World} {ρ : Nat → Value} {m : Mem} {w : World} (hm : RelM W ρ m w)
include hm
theorem decA_ok : ∀ (ps : List PS) (vs : List SV) (x : PsT ps) (n : Nat), decA m ps vs = some x → ∃ us, ArgsOk w ρ n (denL ρ vs) (encA false ps x n).1 (encA false ps x n).2 us
  | [], [], x, n, _ => ⟨[], ArgsOk.nil w ρ n⟩
  | [], _ :: _, x, n, h => by simp [decA] at h
  | _ :: _, [], x, n, h => by simp [decA] at h
  | p :: r, v :: vs, x, n, h => by
    simp only [decA] at h
    split at h
    · rename_i a b ha hb
      injection h with h
      subst h
      obtain ⟨us, hu⟩ := decP_ok hm p v a n ha
      obtain ⟨us', hu'⟩ := decA_ok r vs b (n + (encP false p a n).2.length) hb
      exact ⟨us ++ us', hu.app hu'⟩
    · cases h
end
/-- The callee's own naming. -/
def nameOf (us : List Value) (j : Nat) : Value := us.getD j Go.undef
theorem gives_nameOf (us : List Value) : Gives (nameOf us) 0 us := fun i v h => by simp [nameOf, List.getD_eq_getElem?_getD, h]
theorem ArgsOk.rel {w : World} {ρ : Nat → Value} {vals : List Value} {svs : List SV} {os : Mem} {us : List Value} (h : ArgsOk w ρ 0 vals svs os us) : RelM w (nameOf us) os w := by
  refine ⟨Below.refl _ _, fun j o hj => ?_, fun i j o o' _ hi _ hmu => ?_, fun j o hj => by have := h.lt.2 o (List.mem_of_getElem? hj); simpa using this⟩
  · obtain ⟨v, hv⟩ : ∃ v, us[j]? = some v := by
      have hl := (List.getElem?_eq_some_iff.1 hj).1
      exact ⟨us[j]'(by rw [h.len]; exact hl), List.getElem?_eq_getElem _⟩
    have := (h.obj w (nameOf us) (gives_nameOf us) j o v hj hv).1
    rw [show nameOf us j = v by simp [nameOf, List.getD_eq_getElem?_getD, hv]]
    exact this
  · obtain ⟨v, hv⟩ : ∃ v, us[i]? = some v := by
      have hl := (List.getElem?_eq_some_iff.1 hi).1
      exact ⟨us[i]'(by rw [h.len]; exact hl), List.getElem?_eq_getElem _⟩
    have := (h.obj w (nameOf us) (gives_nameOf us) i o v hi hv).2
    rw [this] at hmu
    cases hmu

/-! ### Results: rows of the callee's own. -/
/-- The objects that hold the rows of a value, in order ('none': a nil slice); none where it has others. -/
def ownRowOf (m : Mem) (k : K) (ty : TypeId) : SV → Option (List k.T)
  | .row j => (match m[j]? with | some (.row (.ty k' l) ty' true) => if h : k' = k then (if ty' == ty then some (castL h l) else none) else none | _ => none)
  | .v (.slice none 0 0) => some []
  | _ => none
def rowNo : SV → List Nat
  | .row j => [j]
  | _ => []
def resSegs (m : Mem) : (l : List Seg) → List SV → Option (SegsT l × List Nat)
  | [], [] => some ((), [])
  | [], _ :: _ => none
  | .fl k :: r, cs => match k.dec (cs.take k.sz), resSegs m r (cs.drop k.sz) with | some a, some (b, js) => some ((a, b), js) | _, _ => none
  | .row _ _ :: _, [] => none
  | .row k ty :: r, c :: cs => match ownRowOf m k ty c, resSegs m r cs with | some a, some (b, js) => some ((a, b), rowNo c ++ js) | _, _ => none
def resP (m : Mem) : (p : PS) → SV → Option (p.T × List Nat)
  | .one (.fl k), v => (decFl k v).map fun a => (a, [])
  | .one (.row k ty), v => (ownRowOf m k ty v).map fun a => (a, rowNo v)
  | .agg l, v => v.parts.bind (resSegs m l)
  | .ref _ _, _ => none
def resA (m : Mem) : (ps : List PS) → List SV → Option (PsT ps × List Nat)
  | [], [] => some ((), [])
  | p :: r, v :: vs => match resP m p v, resA m r vs with | some (a, js), some (b, js') => some ((a, b), js ++ js') | _, _ => none
  | _, _ => none
def tupOf : SV → Option (List SV)
  | .tup l => some l
  | _ => none
def distinct : List Nat → Bool
  | [] => true
  | x :: r => !r.contains x && distinct r
/-- What a call answers, typed. -/
def resR (ps : List PS) (v : SV) (m : Mem) : Option (PsT ps) :=
  match (bif ps.length == 1 then resA m ps [v] else (tupOf v).bind (resA m ps)) with
  | some (a, js) => bif distinct js then some a else none
  | none => none
/-- .. and as the caller sees it. -/
def encR (ps : List PS) (y : PsT ps) (n : Nat) : SV := bif ps.length == 1 then ((encA true ps y n).1).headD .any else .tup (encA true ps y n).1

/-- The callee's results, as values: the rows are at blocks of the callee's own, all apart. -/
structure ResOk (w : World) (base : Nat) (ρ : Nat → Value) (Mt : Nat → Prop) (n : Nat) (vals : List Value) (svs : List SV) (os : Mem) (us : List Value) (js : List Nat) : Prop where
  len : us.length = os.length
  den : ∀ ρ', Gives ρ' n us → denL ρ' svs = vals
  obj : ∀ (i : Nat) (o : Obj) (v : Value), os[i]? = some o → us[i]? = some v → (∀ W ρ', W.heap.size ≤ base → ObjIs W w ρ' v o) ∧ (∀ b, valBlock v = some b → base ≤ b) ∧ (∀ n, o.lt n = true)
  from_ : ∀ v ∈ us, (∃ j ∈ js, v = ρ j) ∨ v = .slice none 0 0
  apart : distinct js = true → ∀ (i j : Nat) (v v' : Value), i ≠ j → us[i]? = some v → us[j]? = some v' → (v = .slice none 0 0 ∨ v' = .slice none 0 0) ∨ ∃ a b, a ∈ js ∧ b ∈ js ∧ a ≠ b ∧ v = ρ a ∧ v' = ρ b
  lt : ltL (n + os.length) svs = true
  mt : ∀ j ∈ js, Mt j

theorem distinct_app {x y : List Nat} : distinct (x ++ y) = true → distinct x = true ∧ distinct y = true ∧ ∀ a ∈ x, ∀ b ∈ y, a ≠ b := by
  induction x with
  | nil => intro h; exact ⟨rfl, h, fun a ha => by cases ha⟩
  | cons c r ih =>
    intro h
    simp only [List.cons_append, distinct, Bool.and_eq_true, Bool.not_eq_true', List.contains_eq_mem, decide_eq_false_iff_not, List.mem_append, not_or] at h ⊢
    obtain ⟨⟨h1, h2⟩, h3⟩ := h
    obtain ⟨h4, h5, h6⟩ := ih h3
    refine ⟨⟨h1, h4⟩, h5, fun a ha b hb => ?_⟩
    rcases List.mem_cons.1 ha with rfl | ha
    · rintro rfl; exact h2 hb
    · exact h6 a ha b hb
theorem ResOk.nil (w : World) (base : Nat) (ρ : Nat → Value) (Mt : Nat → Prop) (n : Nat) : ResOk w base ρ Mt n [] [] [] [] [] :=
  ⟨rfl, fun _ _ => rfl, fun i o v h => by simp at h, fun v h => (by cases h), fun _ i j v v' _ h => by simp at h, rfl, fun j h => by cases h⟩
theorem ResOk.app {w : World} {base : Nat} {ρ : Nat → Value} {Mt : Nat → Prop} {n : Nat} {vals vals' : List Value} {svs svs' : List SV} {os os' : Mem} {us us' : List Value} {js js' : List Nat}
    (h : ResOk w base ρ Mt n vals svs os us js) (h' : ResOk w base ρ Mt (n + os.length) vals' svs' os' us' js') : ResOk w base ρ Mt n (vals ++ vals') (svs ++ svs') (os ++ os') (us ++ us') (js ++ js') := by
  have split : ∀ {i : Nat} {v : Value}, (us ++ us')[i]? = some v → (i < us.length ∧ us[i]? = some v) ∨ (us.length ≤ i ∧ us'[i - us.length]? = some v) := by
    intro i v hi
    by_cases hil : i < us.length
    · rw [List.getElem?_append_left hil] at hi; exact .inl ⟨hil, hi⟩
    · rw [List.getElem?_append_right (by omega)] at hi; exact .inr ⟨by omega, hi⟩
  refine ⟨by simp [h.len, h'.len], fun ρ' hg => ?_, fun i o v hi hv => ?_, fun v hv => ?_, fun hd i j v v' hij hi hj => ?_, ?_, fun j hj => (List.mem_append.1 hj).elim (h.mt j) (h'.mt j)⟩
  · rw [denL_map, List.map_append, ← denL_map, ← denL_map, h.den ρ' hg.left, h'.den ρ' (by rw [← h.len]; exact hg.right)]
  · by_cases hil : i < os.length
    · rw [List.getElem?_append_left hil] at hi
      rw [List.getElem?_append_left (by rw [h.len]; exact hil)] at hv
      exact h.obj i o v hi hv
    · rw [List.getElem?_append_right (by omega)] at hi
      rw [List.getElem?_append_right (by rw [h.len]; omega), h.len] at hv
      exact h'.obj _ o v hi hv
  · rcases List.mem_append.1 hv with hv | hv
    · exact (h.from_ v hv).imp (fun ⟨j, hj, e⟩ => ⟨j, List.mem_append_left _ hj, e⟩) id
    · exact (h'.from_ v hv).imp (fun ⟨j, hj, e⟩ => ⟨j, List.mem_append_right _ hj, e⟩) id
  · obtain ⟨d1, d2, d3⟩ := distinct_app hd
    rcases split hi with ⟨hil, hi⟩ | ⟨hil, hi⟩ <;> rcases split hj with ⟨hjl, hj⟩ | ⟨hjl, hj⟩
    · rcases h.apart d1 i j v v' hij hi hj with h | ⟨a, b, ha, hb, hr⟩
      · exact .inl h
      · exact .inr ⟨a, b, List.mem_append_left _ ha, List.mem_append_left _ hb, hr⟩
    · rcases h.from_ v (List.mem_of_getElem? hi) with ⟨a, ha, e⟩ | e
      · rcases h'.from_ v' (List.mem_of_getElem? hj) with ⟨b, hb, e'⟩ | e'
        · exact .inr ⟨a, b, List.mem_append_left _ ha, List.mem_append_right _ hb, d3 a ha b hb, e, e'⟩
        · exact .inl (.inr e')
      · exact .inl (.inl e)
    · rcases h'.from_ v (List.mem_of_getElem? hi) with ⟨a, ha, e⟩ | e
      · rcases h.from_ v' (List.mem_of_getElem? hj) with ⟨b, hb, e'⟩ | e'
        · exact .inr ⟨a, b, List.mem_append_right _ ha, List.mem_append_left _ hb, fun hab => d3 b hb a ha hab.symm, e, e'⟩
        · exact .inl (.inr e')
      · exact .inl (.inl e)
    · rcases h'.apart d2 _ _ v v' (by omega) hi hj with h | ⟨a, b, ha, hb, hr⟩
      · exact .inl h
      · exact .inr ⟨a, b, List.mem_append_right _ ha, List.mem_append_right _ hb, hr⟩
  · have h1 := ltL_mono (show n + os.length ≤ n + (os ++ os').length by simp) svs h.lt
    have h2 := ltL_mono (show n + os.length + os'.length ≤ n + (os ++ os').length by simp; omega) svs' h'.lt
    simp only [ltL_all, List.all_append, Bool.and_eq_true] at *
    exact ⟨h1, h2⟩

/-- Object j may be written. -/
def MutAt (m : Mem) (j : Nat) : Prop := ∃ o, m[j]? = some o ∧ o.mutB = true
section
variable {W : World} {ρ : Nat → Value} {m : Mem} {w : World} (hm : RelM W ρ m w)
include hm
theorem ownRow_res {k : K} {ty : TypeId} {v : SV} {a : k.T → Bool} {l : List k.T} (h : ownRowOf m k ty v = some l) (n : Nat) :
    ResOk w W.heap.size ρ (MutAt m) n [den ρ v] [.row n] [.row (.ty k l) ty true] [den ρ v] (rowNo v) := by
  have hsl : ∃ A N c, den ρ v = .slice A N c := by
    unfold ownRowOf at h
    split at h
    · split at h
      · rename_i hj
        obtain ⟨_, A, cap, hρ, _⟩ := RelM.row hm hj
        exact ⟨A, _, cap, by simp only [den, hρ]; rfl⟩
      · cases h
    · exact ⟨none, 0, 0, rfl⟩
    · cases h
  obtain ⟨A, N, c, hs⟩ := hsl
  refine ⟨rfl, fun ρ' hg => by simp [denL, den, hg.head, hs, sliceVal], fun i o u hi hu => ?_, fun u hu => ?_, fun _ i j u u' hij hi hj => ?_, by simp [ltL, SV.lt], fun j hj => ?_⟩
  · cases i with
    | succ i => simp at hi
    | zero =>
      simp only [List.getElem?_cons_zero, Option.some.injEq] at hi hu
      subst hi hu
      unfold ownRowOf at h
      split at h
      · rename_i j
        split at h
        · rename_i k' l' ty' hj
          split at h
          · rename_i hk
            subst hk
            split at h
            · rename_i hty
              simp only [beq_iff_eq] at hty
              subst hty
              injection h with h
              subst h
              obtain ⟨g1, g2, g3⟩ := hm.obj j _ hj
              have hv : den ρ (.row j) = ρ j := by
                obtain ⟨_, A, cap, hρ, _⟩ := RelM.row hm hj
                simp only [den, hρ, sliceVal]
              have hd : ∀ ρ', (C.ty k' l').den ρ' = (C.ty k' l').den ρ := fun ρ' => by simp only [C.den]; congr 1; funext a; exact denL_enc ρ ρ' k' a
              simp only [if_true] at g3
              refine ⟨fun W' ρ' hW => ⟨g1, fun u hu => g2 u (by rw [← hd ρ']; exact hu), ?_⟩, fun b hb => ?_, fun n => rfl⟩
              · rw [if_pos rfl, hv]
                show w.ownsRow W'.heap.size ty' k'.sz (ρ j) l'.length ((C.ty k' l').den ρ')
                rw [hd ρ']
                refine ⟨g3.1, g3.2.imp id ?_⟩
                rintro ⟨g, cap, cur, h1, h2, h3⟩
                exact ⟨g, cap, cur, h1, by omega, h3⟩
              · rw [hv] at hb
                rcases g3.2 with ⟨h1, _⟩ | ⟨g, cap, cur, h1, h2, _⟩
                · rw [h1] at hb; simp [valBlock] at hb
                · rw [h1] at hb
                  simp only [valBlock, Option.some.injEq] at hb
                  omega
            · cases h
          · cases h
        · cases h
      · injection h with h
        subst h
        refine ⟨fun W' ρ' hW => ⟨(sz_pos k : 0 < k.sz), fun u hu => ?_, ?_⟩, fun b hb => by simp [den, valBlock] at hb, fun n => rfl⟩
        · have : u ∈ ([] : List Value) := hu
          cases this
        · rw [if_pos rfl]
          exact World.ownsRow_nil w _ ty k.sz
      · cases h
  · simp only [List.mem_singleton] at hu
    subst hu
    unfold ownRowOf at h
    split at h
    · rename_i j
      refine .inl ⟨j, by simp [rowNo], ?_⟩
      split at h
      · rename_i hj
        obtain ⟨_, A, cap, hρ, _⟩ := RelM.row hm hj
        simp only [den, hρ, sliceVal]
      · cases h
    · exact .inr rfl
    · cases h
  · have h1 := (List.getElem?_eq_some_iff.1 hi).1
    have h2 := (List.getElem?_eq_some_iff.1 hj).1
    simp at h1 h2
    omega
  · unfold ownRowOf at h
    split at h
    · simp only [rowNo, List.mem_singleton] at hj
      subst hj
      split at h
      · rename_i hmj
        exact ⟨_, hmj, rfl⟩
      · cases h
    · cases hj
    · cases h
theorem fl_res {k : K} {vals : List Value} {a : k.T} (h : ∀ ρ', denL ρ' (k.enc a) = vals) (n : Nat) : ResOk w W.heap.size ρ (MutAt m) n vals (k.enc a) [] [] [] :=
  have _hs := hm
  ⟨rfl, fun ρ' _ => h ρ', fun i o v h => by simp at h, fun v h => (by cases h), fun _ i j v v' _ h => by simp at h, enc_lt k a _, fun j h => by cases h⟩
theorem resSegs_ok : ∀ (l : List Seg) (cs : List SV) (x : SegsT l) (js : List Nat) (n : Nat), resSegs m l cs = some (x, js) → ∃ us, ResOk w W.heap.size ρ (MutAt m) n (denL ρ cs) (encSegs true l x n).1 (encSegs true l x n).2 us js
  | [], [], x, js, n, h => by simp only [resSegs, Option.some.injEq, Prod.mk.injEq] at h; obtain ⟨_, rfl⟩ := h; exact ⟨[], ResOk.nil w _ ρ _ n⟩
  | [], _ :: _, x, js, n, h => by simp [resSegs] at h
  | .fl k :: r, cs, x, js, n, h => by
    simp only [resSegs] at h
    split at h
    · rename_i a b js' ha hb
      simp only [Option.some.injEq, Prod.mk.injEq] at h
      obtain ⟨rfl, rfl⟩ := h
      obtain ⟨h1, _⟩ := dec_enc k _ a ha
      obtain ⟨us, hu⟩ := resSegs_ok r _ b _ n hb
      have h0 : ResOk w W.heap.size ρ (MutAt m) n (denL ρ (cs.take k.sz)) (k.enc a) [] [] [] := fl_res hm (fun ρ' => by rw [h1]; exact denL_enc ρ ρ' k a) n
      have this := h0.app hu
      have e : denL ρ (cs.take k.sz) ++ denL ρ (cs.drop k.sz) = denL ρ cs := by
        rw [denL_map, denL_map, ← List.map_append, List.take_append_drop, ← denL_map]
      rw [e] at this
      exact ⟨us, this⟩
    · cases h
  | .row _ _ :: _, [], x, js, n, h => by simp [resSegs] at h
  | .row k ty :: r, c :: cs, x, js, n, h => by
    simp only [resSegs] at h
    split at h
    · rename_i a b js' ha hb
      simp only [Option.some.injEq, Prod.mk.injEq] at h
      obtain ⟨rfl, rfl⟩ := h
      have h0 := ownRow_res hm (a := fun _ => true) ha n
      obtain ⟨us, hu⟩ := resSegs_ok r _ b _ (n + 1) hb
      exact ⟨_, h0.app hu⟩
    · cases h
theorem resP_ok (p : PS) (v : SV) (x : p.T) (js : List Nat) (n : Nat) (h : resP m p v = some (x, js)) : ∃ us, ResOk w W.heap.size ρ (MutAt m) n [den ρ v] [(encP true p x n).1] (encP true p x n).2 us js := by
  cases p with
  | one s =>
    cases s with
    | fl k =>
      have hx : (decFl k v).map (fun a => (a, ([] : List Nat))) = some (x, js) := h
      obtain ⟨a, ha, hx⟩ := Option.map_eq_some_iff.1 hx
      cases hx
      refine ⟨[], rfl, fun ρ' _ => ?_, fun i o v h => ?_, fun v h => (by cases h), fun _ i j v v' _ h => by simp at h, ?_, fun j h => by cases h⟩
      · have := (fl_den ρ ρ' ha).1
        show [den ρ' (flV k x)] = [den ρ v]
        rw [this]
      · have h : ([] : Mem)[i]? = some o := h
        simp at h
      · have := (fl_den ρ ρ ha).2 (n + 0)
        show (SV.lt (n + 0) (flV k x) && true) = true
        rw [this]
        rfl
    | row k ty =>
      have hx : (ownRowOf m k ty v).map (fun a => (a, rowNo v)) = some (x, js) := h
      obtain ⟨a, ha, hx⟩ := Option.map_eq_some_iff.1 hx
      cases hx
      exact ⟨_, ownRow_res hm (a := fun _ => true) ha n⟩
  | agg l =>
    have hx : v.parts.bind (resSegs m l) = some (x, js) := h
    obtain ⟨cs, hp, hx⟩ := Option.bind_eq_some_iff.1 hx
    unfold SV.parts at hp
    split at hp
    · injection hp with hp
      subst hp
      obtain ⟨us, hv⟩ := resSegs_ok hm _ _ _ _ n hx
      refine ⟨us, hv.len, fun ρ' hg => ?_, hv.obj, hv.from_, hv.apart, ?_, hv.mt⟩
      · have := hv.den ρ' hg
        simp only [encP, denL, den, this]
      · simpa [encP, ltL, SV.lt] using hv.lt
    · cases hp
  | ref l ty =>
    have hx : (none : Option (SegsT l × List Nat)) = some (x, js) := h
    cases hx
theorem resA_ok : ∀ (ps : List PS) (vs : List SV) (x : PsT ps) (js : List Nat) (n : Nat), resA m ps vs = some (x, js) → ∃ us, ResOk w W.heap.size ρ (MutAt m) n (denL ρ vs) (encA true ps x n).1 (encA true ps x n).2 us js
  | [], [], x, js, n, h => by simp only [resA, Option.some.injEq, Prod.mk.injEq] at h; obtain ⟨_, rfl⟩ := h; exact ⟨[], ResOk.nil w _ ρ _ n⟩
  | [], _ :: _, x, js, n, h => by simp [resA] at h
  | _ :: _, [], x, js, n, h => by simp [resA] at h
  | p :: r, v :: vs, x, js, n, h => by
    simp only [resA] at h
    split at h
    · rename_i a js1 b js2 ha hb
      simp only [Option.some.injEq, Prod.mk.injEq] at h
      obtain ⟨rfl, rfl⟩ := h
      obtain ⟨us, hu⟩ := resP_ok hm p v a js1 n ha
      obtain ⟨us', hu'⟩ := resA_ok r vs b js2 (n + (encP true p a n).2.length) hb
      exact ⟨us ++ us', hu.app hu'⟩
    · cases h
end

/-- New objects behind a step of the world, all apart. -/
theorem RelM.pushL {W : World} {ρ : Nat → Value} {m : Mem} {w w' : World} (h : RelM W ρ m w) (hb : Below w.heap.size w w') {os : Mem} {us : List Value} (hlen : us.length = os.length)
    (ho : ∀ (i : Nat) (o : Obj) (v : Value), os[i]? = some o → us[i]? = some v → (∀ ρ', ObjIs W w' ρ' v o) ∧ (∀ b, valBlock v = some b → w.heap.size ≤ b) ∧ (∀ n, o.lt n = true))
    (hd : ∀ (i j : Nat) (v v' : Value), i ≠ j → us[i]? = some v → us[j]? = some v' → ∀ b, valBlock v = some b → valBlock v' ≠ some b) :
    ∃ ρ', Agree m.length ρ ρ' ∧ Gives ρ' m.length us ∧ RelM W ρ' (m ++ os) w' := by
  obtain ⟨ρ', hρ'⟩ : ∃ ρ' : Nat → Value, ρ' = fun j => if j < m.length then ρ j else us.getD (j - m.length) Go.undef := ⟨_, rfl⟩
  have ha : Agree m.length ρ ρ' := fun j hj => by rw [hρ']; simp [hj]
  have hg : Gives ρ' m.length us := fun i v hi => by
    rw [hρ']
    show (if m.length + i < m.length then _ else us.getD (m.length + i - m.length) Go.undef) = v
    rw [if_neg (by omega), show m.length + i - m.length = i by omega, List.getD_eq_getElem?_getD, hi]
    rfl
  have hk := h.later hb
  have key : ∀ {k : Nat} {o : Obj}, (m ++ os)[k]? = some o → (k < m.length ∧ m[k]? = some o) ∨ (∃ i v, k = m.length + i ∧ os[i]? = some o ∧ us[i]? = some v ∧ ρ' k = v) := by
    intro k o hk
    by_cases hlt : k < m.length
    · rw [List.getElem?_append_left hlt] at hk; exact .inl ⟨hlt, hk⟩
    · rw [List.getElem?_append_right (by omega)] at hk
      have hl := (List.getElem?_eq_some_iff.1 hk).1
      have hv : us[k - m.length]? = some (us[k - m.length]'(by rw [hlen]; exact hl)) := List.getElem?_eq_getElem _
      have := hg _ _ hv
      rw [show m.length + (k - m.length) = k by omega] at this
      exact .inr ⟨k - m.length, _, by omega, hk, hv, this⟩
  refine ⟨ρ', ha, hg, hk.below, fun j o hj => ?_, fun i j o1 o2 hij hi hj hmu hdd b hbi hbj => ?_, fun j o hj => ?_⟩
  · rcases key hj with ⟨hlt, hj⟩ | ⟨i, v, rfl, hi, hv, hr⟩
    · rw [ha j hlt]
      exact (hk.obj j o hj).agree ha (h.lt j o hj)
    · rw [hr]
      exact (ho i o v hi hv).1 ρ'
  · rcases key hi with ⟨hil, hi⟩ | ⟨i', v, rfl, hi, hv, hr⟩ <;> rcases key hj with ⟨hjl, hj⟩ | ⟨j', v', rfl, hj, hv', hr'⟩
    · rw [ha i hil] at hbi
      rw [ha j hjl] at hbj
      exact h.sep i j o1 o2 hij hi hj hmu hdd b hbi hbj
    · rw [ha i hil] at hbi
      rw [hr'] at hbj
      have h1 := (ho j' o2 v' hj hv').2.1 b hbj
      have h2 : b < w.heap.size := ObjIs.lt_heap hbi (by cases o1 <;> simp_all [Obj.mutB]) (h.obj i o1 hi)
      omega
    · rw [ha j hjl] at hbj
      rw [hr] at hbi
      have h1 := (ho i' o1 v hi hv).2.1 b hbi
      have h2 : b < w.heap.size := ObjIs.lt_heap hbj hdd (h.obj j o2 hj)
      omega
    · rw [hr] at hbi
      rw [hr'] at hbj
      exact hd i' j' v v' (by rintro rfl; exact hij rfl) hv hv' b hbi hbj
  · rcases key hj with ⟨hlt, hj⟩ | ⟨i, v, rfl, hi, hv, hr⟩
    · exact Obj.lt_mono (by simp) o (h.lt j o hj)
    · exact (ho i o v hi hv).2.2 _

def flatP : PS → Bool
  | .one (.fl _) => true
  | _ => false
/-- **A CONTRACT**: a function of typed arguments and results. -/
def conTr (ps rs : List PS) (t : PsT ps → Option (PsT rs)) : Tr := fun _ args m k =>
  (decA m ps args).bind fun x => (t x).bind fun y => k (encR rs y m.length) (m ++ (encA true rs y m.length).2)
def con (ps rs : List PS) (t : PsT ps → Option (PsT rs)) : Con := { tr := conTr ps rs t, q := rs.all flatP, law := true }

theorem flat_os : ∀ (rs : List PS) (y : PsT rs) (n : Nat), rs.all flatP = true → (encA true rs y n).2 = []
  | [], _, _, _ => rfl
  | p :: r, y, n, h => by
    simp only [List.all_cons, Bool.and_eq_true] at h
    have h0 : (encP true p y.1 n).2 = [] := by
      cases p with
      | one s => cases s with
        | fl k => rfl
        | row k ty => simp [flatP] at h
      | agg l => simp [flatP] at h
      | ref l ty => simp [flatP] at h
    simp only [encA, h0, List.nil_append, List.length_nil]
    exact flat_os r y.2 _ h.2
theorem flV_lt (k : K) (a : k.T) (n : Nat) : (flV k a).lt n = true := by cases k <;> rfl
theorem flat_lt : ∀ (rs : List PS) (y : PsT rs) (n k : Nat), rs.all flatP = true → ltL k (encA true rs y n).1 = true
  | [], _, _, _, _ => rfl
  | p :: r, y, n, k, h => by
    simp only [List.all_cons, Bool.and_eq_true] at h
    have h0 : (encP true p y.1 n).1.lt k = true := by
      cases p with
      | one s => cases s with
        | fl k' => exact flV_lt k' y.1 k
        | row k ty => simp [flatP] at h
      | agg l => simp [flatP] at h
      | ref l ty => simp [flatP] at h
    simp only [encA, ltL, h0, Bool.true_and]
    exact flat_lt r y.2 _ k h.2
theorem encR_lt (rs : List PS) (y : PsT rs) (n : Nat) (h : rs.all flatP = true) : (encR rs y n).lt 0 = true := by
  have h0 := flat_lt rs y n 0 h
  unfold encR
  cases rs.length == 1
  · simpa only [cond_false, SV.lt] using h0
  · simp only [cond_true]
    cases hx : (encA true rs y n).1 with
    | nil => rfl
    | cons c r =>
      rw [hx] at h0
      simp only [ltL, Bool.and_eq_true] at h0
      exact h0.1
theorem RelM.back {W : World} {ρ ρ' : Nat → Value} {m : Mem} {w : World} (h : RelM W ρ' m w) (ha : Agree m.length ρ ρ') (hlt : ∀ (j : Nat) (o : Obj), m[j]? = some o → o.lt m.length = true) : RelM W ρ m w := by
  have hl : ∀ {j : Nat} {o : Obj}, m[j]? = some o → j < m.length := fun hj => (List.getElem?_eq_some_iff.1 hj).1
  refine ⟨h.below, fun j o hj => ?_, fun i j o o' hij hi hj hmu hd b hb hb' => ?_, hlt⟩
  · have := h.obj j o hj
    rw [ha j (hl hj)] at this
    have hag : Agree m.length ρ' ρ := fun i hi => (ha i hi).symm
    exact this.agree hag (hlt j o hj)
  · rw [← ha i (hl hi)] at hb
    rw [← ha j (hl hj)] at hb'
    exact h.sep i j o o' hij hi hj hmu hd b hb hb'
theorem encR_den {rs : List PS} {y : PsT rs} {n : Nat} {ρ' : Nat → Value} {vals : List Value} {v : Value} (hlen : (encA true rs y n).1.length = rs.length) (h : denL ρ' (encA true rs y n).1 = vals) (hv : v = if rs.length = 1 then vals.headD Go.undef else .tuple vals.toArray) : den ρ' (encR rs y n) = v := by
  unfold encR
  rw [hv]
  by_cases h1 : rs.length = 1
  · rw [if_pos h1, show (rs.length == 1) = true by simpa using h1]
    simp only [cond_true]
    rw [h1] at hlen
    match hx : (encA true rs y n).1, hlen with
    | [c], _ =>
      rw [hx] at h
      rw [← h]
      rfl
  · rw [if_neg h1, show (rs.length == 1) = false by simpa using h1]
    simp only [cond_false, den, h]
theorem encA_len (own : Bool) : ∀ (ps : List PS) (x : PsT ps) (n : Nat), (encA own ps x n).1.length = ps.length
  | [], _, _ => rfl
  | p :: r, x, n => by simp [encA, encA_len own r]

theorem resR_ok {W : World} {ρ : Nat → Value} {m : Mem} {w : World} (hm : RelM W ρ m w) {rs : List PS} {v : SV} {y : PsT rs} (h : resR rs v m = some y) (n : Nat) :
    ∃ vals us js, ResOk w W.heap.size ρ (MutAt m) n vals (encA true rs y n).1 (encA true rs y n).2 us js ∧ distinct js = true ∧ den ρ v = (if rs.length = 1 then vals.headD Go.undef else .tuple vals.toArray) := by
  unfold resR at h
  by_cases h1 : rs.length = 1
  · rw [show (rs.length == 1) = true by simpa using h1] at h
    simp only [cond_true] at h
    split at h
    · rename_i a js ha
      cases hd : distinct js
      · rw [hd] at h; cases h
      · rw [hd] at h
        injection h with h
        subst h
        obtain ⟨us, hu⟩ := resA_ok hm rs [v] a js n ha
        exact ⟨_, us, js, hu, hd, by rw [if_pos h1]; rfl⟩
    · cases h
  · rw [show (rs.length == 1) = false by simpa using h1] at h
    simp only [cond_false] at h
    split at h
    · rename_i a js ha
      obtain ⟨l, hl, ha⟩ := Option.bind_eq_some_iff.1 ha
      cases hd : distinct js
      · rw [hd] at h; cases h
      · rw [hd] at h
        injection h with h
        subst h
        unfold tupOf at hl
        split at hl
        · injection hl with hl
          subst hl
          obtain ⟨us, hu⟩ := resA_ok hm rs _ a js n ha
          exact ⟨_, us, js, hu, hd, by rw [if_neg h1]; rfl⟩
        · cases hl
    · cases h

/-- **THE CONTRACT HOLDS** if the function, called in whatever world at typed arguments, comes to it. -/
theorem con_of {P : Program} {f : FuncId} (ps rs : List PS) (t : PsT ps → Option (PsT rs))
    (hc : ∀ (x : PsT ps) (y : PsT rs), t x = some y → ∀ (ρ : Nat → Value) (us vals : List Value) (w : World), Glob P w → ArgsOk w ρ 0 vals (encA false ps x 0).1 (encA false ps x 0).2 us →
      Calls P f vals.toArray w fun e w' => ∃ ρc r m', e = .returned (den ρc r) ∧ RelM w ρc m' w' ∧ resR rs r m' = some y) : TrOk P f (con ps rs t) := by
  -- a call, from the caller's world on
  have main : ∀ {W : World}, Glob P W → ∀ {args : List SV} {m : Mem} {x : PsT ps} {y : PsT rs}, decA m ps args = some x → t x = some y → ∀ ρ w, RelM W ρ m w →
      Calls P f (denL ρ args).toArray w fun e w' => ∃ ρ', e = .returned (den ρ' (encR rs y m.length)) ∧ RelM W ρ' (m ++ (encA true rs y m.length).2) w' ∧ Agree m.length ρ ρ' ∧ (encR rs y m.length).lt (m ++ (encA true rs y m.length).2).length = true := by
    intro W hG args m x y hx hy ρ w hm
    obtain ⟨us, hu⟩ := decA_ok hm ps args x 0 hx
    refine (hc x y hy ρ us _ w (hG.mono hm.below) hu).mono ?_
    rintro e w' ⟨ρc, r, m', rfl, hm', hres⟩
    obtain ⟨vals, vs, js, hr, hd, hv⟩ := resR_ok hm' hres m.length
    obtain ⟨ρ', hag, hg, hpush⟩ := hm.pushL hm'.below hr.len (fun i o v hi hv => by
        obtain ⟨h1, h2, h3⟩ := hr.obj i o v hi hv
        exact ⟨fun ρ' => h1 W ρ' hm.below.size, h2, h3⟩) (fun i j v v' hij hi hj b hb hb' => by
      rcases hr.apart hd i j v v' hij hi hj with (h0 | h0) | ⟨a, c, ha, hc, hac, e1, e2⟩
      · rw [h0] at hb; simp [valBlock] at hb
      · rw [h0] at hb'; simp [valBlock] at hb'
      · obtain ⟨oa, ha1, ha2⟩ := hr.mt a ha
        obtain ⟨oc, hc1, hc2⟩ := hr.mt c hc
        rw [e1] at hb
        rw [e2] at hb'
        exact hm'.sep a c oa oc hac ha1 hc1 ha2 (mutB_live hc2) b hb hb')
    refine ⟨ρ', ?_, hpush, hag, ?_⟩
    · rw [encR_den (encA_len true rs y _) (hr.den ρ' hg) hv]
    · have hlt := hr.lt
      rw [List.length_append]
      unfold encR
      by_cases h1 : rs.length = 1
      · rw [show (rs.length == 1) = true by simpa using h1]
        simp only [cond_true]
        have hlen := encA_len true rs y m.length
        rw [h1] at hlen
        match hx : (encA true rs y m.length).1, hlen with
        | [c], _ =>
          rw [hx] at hlt
          simpa [ltL] using hlt
      · rw [show (rs.length == 1) = false by simpa using h1]
        simpa only [cond_false, SV.lt] using hlt
  refine ⟨fun W hG X args m k x hk hany => ⟨fun hlt ρ w hm => ?_⟩, fun hq W hG X args m k x hk hany => ⟨fun hlt => ?_⟩, fun _ X args m k x hk => ?_⟩
  · simp only [con, conTr] at hk
    obtain ⟨a, ha, hk⟩ := Option.bind_eq_some_iff.1 hk
    obtain ⟨y, hy, hk⟩ := Option.bind_eq_some_iff.1 hk
    refine (main hG ha hy ρ w hm).mono ?_
    rintro e w' ⟨ρ', rfl, hm', hag, hl'⟩
    exact ⟨ρ', _, _, rfl, hm', hag, by simp, fun _ => hl', hk⟩
  · simp only [con, conTr] at hk hq
    obtain ⟨a, ha, hk⟩ := Option.bind_eq_some_iff.1 hk
    obtain ⟨y, hy, hk⟩ := Option.bind_eq_some_iff.1 hk
    have hos := flat_os rs y m.length hq
    have hcl : (encR rs y m.length).lt 0 = true := encR_lt rs y _ hq
    refine ⟨encR rs y m.length, lt_mono (Nat.zero_le _) _ hcl, fun ρ w hm => (main hG ha hy ρ w hm).mono ?_, hk⟩
    rintro e w' ⟨ρ', rfl, hm', hag, hl'⟩
    rw [hos, List.append_nil] at hm'
    refine ⟨?_, ?_⟩
    · rw [den_agree (n := 0) (fun i hi => absurd hi (by omega)) _ hcl]
    · exact hm'.back hag hm.lt
  · simp only [con, conTr] at hk ⊢
    obtain ⟨a, ha, hk⟩ := Option.bind_eq_some_iff.1 hk
    obtain ⟨y, hy, hk⟩ := Option.bind_eq_some_iff.1 hk
    exact ⟨_, _, by rw [ha, Option.bind_some, hy, Option.bind_some], hk, fun _ => ⟨_, rfl⟩⟩
/-- .. if the body, at the typed arguments, comes to it. -/
theorem con_ok {P : Program} {E : Env} (hE : EnvOk P E) {f : FuncId} {fn : Func} (hf : P.funcs[f]? = some fn) (hl : ∀ c, fn.body = some c → LoopsOk P E c) (ps rs : List PS) (t : PsT ps → Option (PsT rs))
    (h : ∀ x, ixF E fn (encA false ps x 0).1 (encA false ps x 0).2 (resR rs) = t x) : TrOk P f (con ps rs t) := by
  refine con_of ps rs t fun x y hy ρ us vals w hG hu => ?_
  have hrel := hu.rel
  have hden := hu.den _ (gives_nameOf us)
  have hcall := calls_of_ix (m := (encA false ps x 0).2) (W := w) ⟨hE, hG⟩ hf hl (by have := hu.lt.1; simpa using this) ((h x).trans hy) hrel
  rw [hden] at hcall
  refine hcall.mono ?_
  rintro e w' ⟨ρc, r, m', rfl, hm', _, _, _, hres⟩
  exact ⟨ρc, r, m', rfl, hm', hres⟩

/-! ### A function that is entered in place where the order is drawn: one plain answer, whatever it laid down meanwhile. -/
def Obj.shut : Obj → Obj
  | .blk cs ty _ => .blk cs ty false
  | .row c ty _ => .row c ty false
  | .dead => .dead
theorem RelM.shut {W : World} {ρ : Nat → Value} {m : Mem} {w : World} (h : RelM W ρ m w) : RelM w ρ (m.map Obj.shut) w := by
  have hget : ∀ {j : Nat} {o : Obj}, (m.map Obj.shut)[j]? = some o → ∃ o', m[j]? = some o' ∧ o = o'.shut := fun {j o} hj => by
    rw [List.getElem?_map] at hj
    obtain ⟨o', h1, h2⟩ := Option.map_eq_some_iff.1 hj
    exact ⟨o', h1, h2.symm⟩
  refine ⟨Below.refl _ _, fun j o hj => ?_, fun i j o o' _ hi _ hmu => ?_, fun j o hj => ?_⟩
  · obtain ⟨o', hj', rfl⟩ := hget hj
    cases o' with
    | dead => trivial
    | blk cs ty own =>
      obtain ⟨b, arr, h1, _, h3⟩ := h.obj j _ hj'
      exact ⟨b, arr, h1, (fun h => by cases h), h3⟩
    | row c ty own =>
      obtain ⟨hs0, A, cap, hρ, hlen, hnone, hncap, hcap, h0, hcell⟩ := RelM.row h hj'
      refine ⟨hs0, h0, ?_⟩
      rw [if_neg (by simp)]
      refine ⟨hlen, A, cap, hρ, hncap, hcap, hnone, fun a ha => ?_⟩
      subst ha
      exact ⟨ObjIs.lt_heap (v := ρ j) (by rw [hρ]; rfl) rfl (h.obj j _ hj'), fun q u hq => hcell a rfl q u hq⟩
  · obtain ⟨o', _, rfl⟩ := hget hi
    cases o' <;> simp [Obj.shut, Obj.mutB] at hmu
  · obtain ⟨o', hj', rfl⟩ := hget hj
    have := h.lt j o' hj'
    rw [List.length_map]
    cases o' <;> exact this
noncomputable def flCon (E : Env) (fn : Func) (rs : List PS) : Con :=
  { tr := fun _ args m k => (ixF E fn args (m.map Obj.shut) (resR rs)).bind fun y => k (encR rs y m.length) m, q := true, law := true }
theorem flCon_ok {P : Program} {E : Env} (hE : EnvOk P E) {f : FuncId} {fn : Func} (hf : P.funcs[f]? = some fn) (hl : ∀ c, fn.body = some c → LoopsOk P E c) (rs : List PS) (hrs : rs.all flatP = true) : TrOk P f (flCon E fn rs) := by
  have main : ∀ {W : World}, Glob P W → ∀ {args : List SV} {m : Mem} {y : PsT rs}, ixF E fn args (m.map Obj.shut) (resR rs) = some y → ltL m.length args = true → ∀ ρ w, RelM W ρ m w →
      Calls P f (denL ρ args).toArray w fun e w' => e = .returned (den ρ (encR rs y m.length)) ∧ RelM W ρ m w' := by
    intro W hG args m y hy hlt ρ w hm
    refine (calls_of_ix (W := w) ⟨hE, hG.mono hm.below⟩ hf hl (by rw [List.length_map]; exact hlt) hy hm.shut).mono ?_
    rintro e w' ⟨ρ', r, m', rfl, hm', _, _, _, hr⟩
    obtain ⟨vals, us, js, hr, hd, hv⟩ := resR_ok hm' hr m.length
    have hus : us = [] := by
      have := hr.len
      rw [flat_os rs y m.length hrs] at this
      exact List.eq_nil_of_length_eq_zero this
    subst hus
    have hden := encR_den (encA_len true rs y m.length) (hr.den ρ (fun i v h => by simp at h)) hv
    exact ⟨by rw [hden], hm.later hm'.below⟩
  have hlt : ∀ (y : PsT rs) (n k : Nat), (encR rs y n).lt k = true := fun y n k => lt_mono (Nat.zero_le _) _ (encR_lt rs y n hrs)
  refine ⟨fun W hG X args m k x hk _ => ⟨fun hl0 ρ w hm => ?_⟩, fun _ W hG X args m k x hk _ => ⟨fun hl0 => ?_⟩, fun _ X args m k x hk => ?_⟩
  · obtain ⟨y, hy, hk⟩ := Option.bind_eq_some_iff.1 hk
    refine (main hG hy hl0 ρ w hm).mono ?_
    rintro e w' ⟨rfl, hm'⟩
    exact ⟨ρ, encR rs y m.length, m, rfl, hm', Agree.refl _ _, Nat.le_refl _, fun _ => hlt y _ _, hk⟩
  · obtain ⟨y, hy, hk⟩ := Option.bind_eq_some_iff.1 hk
    exact ⟨encR rs y m.length, hlt y _ _, fun ρ w hm => main hG hy hl0 ρ w hm, hk⟩
  · obtain ⟨y, hy, hk⟩ := Option.bind_eq_some_iff.1 hk
    refine ⟨encR rs y m.length, m, ?_, hk, fun _ => ⟨[], by simp⟩⟩
    show (ixF E fn args (m.map Obj.shut) (resR rs)).bind _ = _
    rw [hy]
    rfl
end Go.Ma
