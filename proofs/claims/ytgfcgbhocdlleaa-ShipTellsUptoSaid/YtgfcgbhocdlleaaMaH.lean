/-
  THE MACHINE, part H: loops. A loop's head is a state of a given form, of typed variables; a round comes back to that form, or leaves by an exit whose states have a form too.
-/
import Derived.Test.YtgfcgbhocdlleaaMaG
import Derived.LoopN
import Derived.Deep.LoopGhost
namespace Go.Ma
open Go Go.RowKit

/-! ### States cut down to what is kept, their objects numbered anew. -/
mutual
def SV.refs : SV → List Nat
  | .ptr j _ => [j]
  | .row j => [j]
  | .ep j _ _ _ => [j]
  | .agg l => refsL l
  | .tup l => refsL l
  | .fn _ l => refsL l
  | _ => []
def refsL : List SV → List Nat
  | [] => []
  | x :: r => x.refs ++ refsL r
end
mutual
def SV.ren (σ : Nat → Option Nat) : SV → Option SV
  | .ptr j o => (σ j).map fun k => .ptr k o
  | .row j => (σ j).map fun k => .row k
  | .ep j i sz o => (σ j).map fun k => .ep k i sz o
  | .agg l => (renL σ l).map fun l => .agg l
  | .tup l => (renL σ l).map fun l => .tup l
  | .fn f l => (renL σ l).map fun l => .fn f l
  | .b x => some (.b x) | .i k x => some (.i k x) | .s x => some (.s x) | .v x => some (.v x) | .any => some .any | .undef => some .undef
def renL (σ : Nat → Option Nat) : List SV → Option (List SV)
  | [] => some []
  | x :: r => (x.ren σ).bind fun y => (renL σ r).map fun l => y :: l
end
def Obj.refs : Obj → List Nat
  | .dead => []
  | .blk cs _ _ => refsL cs
  | .row (.ty _ _) _ _ => []
  | .row (.sv cs _ _) _ _ => refsL cs
def Obj.ren (σ : Nat → Option Nat) : Obj → Option Obj
  | .dead => some .dead
  | .blk cs ty own => (renL σ cs).map fun cs => .blk cs ty own
  | .row (.ty k l) ty own => some (.row (.ty k l) ty own)
  | .row (.sv cs sz n) ty own => (renL σ cs).map fun cs => .row (.sv cs sz n) ty own
def renOs (σ : Nat → Option Nat) : List Obj → Option (List Obj)
  | [] => some []
  | x :: r => (x.ren σ).bind fun y => (renOs σ r).map fun l => y :: l
def addNew (base : Nat) : List Nat → List Nat → List Nat
  | acc, [] => acc
  | acc, j :: r => if decide (j < base) || acc.contains j then addNew base acc r else addNew base (acc ++ [j]) r
def place (l : List Nat) (j : Nat) : Option Nat :=
  match l with
  | [] => none
  | x :: r => if x == j then some 0 else (place r j).map (· + 1)
/-- What is kept of a state. -/
structure Cp where
  vals : List SV
  objs : List Obj
def keptAt (base : Nat) (keep : List Nat) (s : St) : List Nat :=
  let vs := keep.map fun i => s.t.getD i .any
  let r0 := addNew base [] (refsL vs ++ (s.m.take base).flatMap Obj.refs)
  let r1 := addNew base r0 (r0.flatMap fun j => (s.m.getD j .dead).refs)
  addNew base r1 (r1.flatMap fun j => (s.m.getD j .dead).refs)
def sig (base : Nat) (r : List Nat) (j : Nat) : Option Nat := if j < base then some j else (place r j).map (base + ·)
def norm (base : Nat) (keep : List Nat) (s : St) : Option Cp :=
  let r := keptAt base keep s
  (renL (sig base r) (keep.map fun i => s.t.getD i .any)).bind fun vs => (renOs (sig base r) (s.m.take base ++ r.map fun j => s.m.getD j .dead)).map fun os => ⟨vs, os⟩
/-- The slots of the list, all others forgotten. -/
def setSlots (t : List SV) : List (Nat × SV) → List SV
  | [] => t
  | (i, v) :: r => setSlots (t.set i v) r
def expand (n : Nat) (keep : List Nat) (c : Cp) : St := ⟨setSlots (List.replicate n .any) (keep.zip c.vals), c.objs⟩

theorem place_some : ∀ {l : List Nat} {j k : Nat}, place l j = some k → l[k]? = some j
  | x :: r, j, k, h => by
    simp only [place] at h
    split at h
    · rename_i hx
      injection h with h
      subst h
      simpa using hx
    · obtain ⟨k', hk, rfl⟩ := Option.map_eq_some_iff.1 h
      simpa using place_some hk
/-- Object j of the new state is object 'from j' of the elder one. -/
def from_ (base : Nat) (r : List Nat) (j : Nat) : Nat := if j < base then j else r.getD (j - base) 0
theorem sig_from {base : Nat} {r : List Nat} {j k : Nat} (h : sig base r j = some k) : from_ base r k = j ∧ k < base + r.length := by
  unfold sig at h
  split at h
  · rename_i hj
    injection h with h
    subst h
    exact ⟨by simp [from_, hj], by omega⟩
  · obtain ⟨k', hk, rfl⟩ := Option.map_eq_some_iff.1 h
    have := place_some hk
    have hl := (List.getElem?_eq_some_iff.1 this).1
    refine ⟨?_, by omega⟩
    unfold from_
    rw [if_neg (by omega), show base + k' - base = k' by omega, List.getD_eq_getElem?_getD, this]
    rfl

def Obj.deadB : Obj → Bool
  | .dead => true
  | _ => false
theorem deadB_iff {o : Obj} : (o matches .dead) = false ↔ o.deadB = false := by cases o <;> simp [Obj.deadB]
section
variable {σ : Nat → Option Nat} {π : Nat → Nat} {N : Nat} (hσ : ∀ j k, σ j = some k → π k = j ∧ k < N)
include hσ
mutual
theorem ren_ok (ρ : Nat → Value) : ∀ (x y : SV), x.ren σ = some y → den ρ x = den (fun j => ρ (π j)) y ∧ y.isAny = x.isAny ∧ y.lt N = true
  | .ptr j o, y, h => by
    simp only [SV.ren] at h
    obtain ⟨k, hk, rfl⟩ := Option.map_eq_some_iff.1 h
    obtain ⟨h1, h2⟩ := hσ j k hk
    exact ⟨by simp only [den, h1], rfl, by simpa [SV.lt] using h2⟩
  | .row j, y, h => by
    simp only [SV.ren] at h
    obtain ⟨k, hk, rfl⟩ := Option.map_eq_some_iff.1 h
    obtain ⟨h1, h2⟩ := hσ j k hk
    exact ⟨by simp only [den, h1], rfl, by simpa [SV.lt] using h2⟩
  | .ep j i sz o, y, h => by
    simp only [SV.ren] at h
    obtain ⟨k, hk, rfl⟩ := Option.map_eq_some_iff.1 h
    obtain ⟨h1, h2⟩ := hσ j k hk
    exact ⟨by simp only [den, h1], rfl, by simpa [SV.lt] using h2⟩
  | .agg l, y, h => by
    simp only [SV.ren] at h
    obtain ⟨l', hl, rfl⟩ := Option.map_eq_some_iff.1 h
    obtain ⟨h1, h2⟩ := renL_ok ρ l l' hl
    exact ⟨by simp only [den, h1], rfl, h2⟩
  | .tup l, y, h => by
    simp only [SV.ren] at h
    obtain ⟨l', hl, rfl⟩ := Option.map_eq_some_iff.1 h
    obtain ⟨h1, h2⟩ := renL_ok ρ l l' hl
    exact ⟨by simp only [den, h1], rfl, h2⟩
  | .fn f l, y, h => by
    simp only [SV.ren] at h
    obtain ⟨l', hl, rfl⟩ := Option.map_eq_some_iff.1 h
    obtain ⟨h1, h2⟩ := renL_ok ρ l l' hl
    exact ⟨by simp only [den, h1], rfl, h2⟩
  | .b x, y, h => by simp only [SV.ren, Option.some.injEq] at h; subst h; exact ⟨rfl, rfl, rfl⟩
  | .i k x, y, h => by simp only [SV.ren, Option.some.injEq] at h; subst h; exact ⟨rfl, rfl, rfl⟩
  | .s x, y, h => by simp only [SV.ren, Option.some.injEq] at h; subst h; exact ⟨rfl, rfl, rfl⟩
  | .v x, y, h => by simp only [SV.ren, Option.some.injEq] at h; subst h; exact ⟨rfl, rfl, rfl⟩
  | .any, y, h => by simp only [SV.ren, Option.some.injEq] at h; subst h; exact ⟨rfl, rfl, rfl⟩
  | .undef, y, h => by simp only [SV.ren, Option.some.injEq] at h; subst h; exact ⟨rfl, rfl, rfl⟩
theorem renL_ok (ρ : Nat → Value) : ∀ (x y : List SV), renL σ x = some y → denL ρ x = denL (fun j => ρ (π j)) y ∧ ltL N y = true
  | [], y, h => by simp only [renL, Option.some.injEq] at h; subst h; exact ⟨rfl, rfl⟩
  | a :: r, y, h => by
    have _hs := hσ
    simp only [renL] at h
    obtain ⟨b, hb, h⟩ := Option.bind_eq_some_iff.1 h
    obtain ⟨l, hl, rfl⟩ := Option.map_eq_some_iff.1 h
    obtain ⟨h1, _, h2⟩ := ren_ok ρ a b hb
    obtain ⟨h3, h4⟩ := renL_ok ρ r l hl
    exact ⟨by simp only [denL, h1, h3], by simp [ltL, h2, h4]⟩
end
theorem renL_get : ∀ {x y : List SV}, renL σ x = some y → x.length = y.length ∧ ∀ (i : Nat) (b : SV), y[i]? = some b → ∃ a, x[i]? = some a ∧ a.ren σ = some b
  | [], y, h => by simp only [renL, Option.some.injEq] at h; subst h; exact ⟨rfl, fun i b h => by simp at h⟩
  | a :: r, y, h => by
    have _hs := hσ
    simp only [renL] at h
    obtain ⟨b, hb, h⟩ := Option.bind_eq_some_iff.1 h
    obtain ⟨l, hl, rfl⟩ := Option.map_eq_some_iff.1 h
    obtain ⟨h1, h2⟩ := renL_get hl
    refine ⟨by simp [h1], fun i c hc => ?_⟩
    cases i with
    | zero => simp only [List.getElem?_cons_zero, Option.some.injEq] at hc; subst hc; exact ⟨a, rfl, hb⟩
    | succ i => simpa using h2 i c (by simpa using hc)
theorem renO_ok {W w : World} (ρ : Nat → Value) {o o' : Obj} (h : o.ren σ = some o') : (∀ v, ObjIs W w ρ v o → ObjIs W w (fun j => ρ (π j)) v o') ∧ o'.mutB = o.mutB ∧ o'.lt N = true ∧ o.deadB = o'.deadB := by
  unfold Obj.ren at h
  split at h
  · simp only [Option.some.injEq] at h; subst h; exact ⟨fun _ _ => trivial, rfl, rfl, rfl⟩
  · rename_i cs ty own
    obtain ⟨cs', hcs, rfl⟩ := Option.map_eq_some_iff.1 h
    obtain ⟨hl, hg⟩ := renL_get hσ hcs
    refine ⟨fun v ⟨b, arr, h1, h2, h3, h4, h5⟩ => ⟨b, arr, h1, h2, h3, by rw [h4, hl], fun i sv hi ha => ?_⟩, rfl, ?_, rfl⟩
    · obtain ⟨a, ha', hr⟩ := hg i sv hi
      obtain ⟨e1, e2, _⟩ := ren_ok hσ ρ a sv hr
      rw [h5 i a ha' (by rw [← e2]; exact ha), e1]
    · simp only [Obj.lt, List.all_eq_true, Bool.or_eq_true]
      intro c hc
      obtain ⟨i, hi⟩ := List.mem_iff_getElem?.1 hc
      obtain ⟨a, _, hr⟩ := hg i c hi
      exact .inr (ren_ok hσ ρ a c hr).2.2
  · simp only [Option.some.injEq] at h
    subst h
    rename_i k l ty own
    refine ⟨fun v hv => ?_, rfl, rfl, rfl⟩
    have e : (C.ty k l).den (fun j => ρ (π j)) = (C.ty k l).den ρ := by simp only [C.den]; congr 1; funext a; exact denL_enc ρ _ k a
    obtain ⟨h1, h2, h3⟩ := hv
    exact ⟨h1, by rw [e]; exact h2, by rw [e]; exact h3⟩
  · rename_i cs sz n ty own
    obtain ⟨cs', hcs, rfl⟩ := Option.map_eq_some_iff.1 h
    obtain ⟨hd, hlt⟩ := renL_ok hσ ρ cs cs' hcs
    refine ⟨fun v hv => ?_, rfl, hlt, rfl⟩
    have e : (C.sv cs' sz n).den (fun j => ρ (π j)) = (C.sv cs sz n).den ρ := hd.symm
    obtain ⟨h1, h2, h3⟩ := hv
    exact ⟨h1, by rw [e]; exact h2, by rw [e]; exact h3⟩
theorem renOs_get : ∀ {x y : List Obj}, renOs σ x = some y → x.length = y.length ∧ ∀ (i : Nat) (b : Obj), y[i]? = some b → ∃ a, x[i]? = some a ∧ a.ren σ = some b
  | [], y, h => by simp only [renOs, Option.some.injEq] at h; subst h; exact ⟨rfl, fun i b h => by simp at h⟩
  | a :: r, y, h => by
    have _hs := hσ
    simp only [renOs] at h
    obtain ⟨b, hb, h⟩ := Option.bind_eq_some_iff.1 h
    obtain ⟨l, hl, rfl⟩ := Option.map_eq_some_iff.1 h
    obtain ⟨h1, h2⟩ := renOs_get hl
    refine ⟨by simp [h1], fun i c hc => ?_⟩
    cases i with
    | zero => simp only [List.getElem?_cons_zero, Option.some.injEq] at hc; subst hc; exact ⟨a, rfl, hb⟩
    | succ i => simpa using h2 i c (by simpa using hc)
end

theorem addNew_ok {base : Nat} : ∀ (l acc : List Nat), acc.Nodup → (∀ j ∈ acc, base ≤ j) → (addNew base acc l).Nodup ∧ ∀ j ∈ addNew base acc l, base ≤ j
  | [], acc, h1, h2 => ⟨h1, h2⟩
  | j :: r, acc, h1, h2 => by
    simp only [addNew]
    split
    · exact addNew_ok r acc h1 h2
    · rename_i hc
      simp only [Bool.or_eq_true, decide_eq_true_eq, List.contains_eq_mem, not_or] at hc
      refine addNew_ok r _ ?_ ?_
      · rw [List.nodup_append]
        refine ⟨h1, by simp, fun a ha b hb => ?_⟩
        simp only [List.mem_singleton] at hb
        subst hb
        rintro rfl
        exact hc.2 ha
      · intro k hk
        rcases List.mem_append.1 hk with hk | hk
        · exact h2 k hk
        · simp only [List.mem_singleton] at hk
          omega
theorem keptAt_ok (base : Nat) (keep : List Nat) (s : St) : (keptAt base keep s).Nodup ∧ ∀ j ∈ keptAt base keep s, base ≤ j := by
  unfold keptAt
  simp only
  generalize refsL (keep.map fun i => s.t.getD i .any) ++ (s.m.take base).flatMap Obj.refs = l0
  obtain ⟨h1, h2⟩ := addNew_ok (base := base) l0 [] (List.nodup_nil) (fun j hj => by cases hj)
  obtain ⟨h3, h4⟩ := addNew_ok (base := base) ((addNew base [] l0).flatMap fun j => (s.m.getD j .dead).refs) _ h1 h2
  exact addNew_ok (base := base) _ _ h3 h4

theorem setSlots_len : ∀ (l : List (Nat × SV)) (t : List SV), (setSlots t l).length = t.length
  | [], _ => rfl
  | (i, v) :: r, t => by simp [setSlots, setSlots_len r]
theorem setSlots_get : ∀ (l : List (Nat × SV)) (t : List SV) (i : Nat) (x : SV), (setSlots t l)[i]? = some x → t[i]? = some x ∨ ((i, x) ∈ l)
  | [], _, _, _, h => .inl h
  | (j, v) :: r, t, i, x, h => by
    rcases setSlots_get r _ i x h with h | h
    · by_cases hij : i = j
      · subst hij
        have hl : i < t.length := by
          have := (List.getElem?_eq_some_iff.1 h).1
          simpa using this
        rw [List.getElem?_set_self hl] at h
        injection h with h
        subst h
        exact .inr (by simp)
      · rw [List.getElem?_set_ne (by omega)] at h
        exact .inl h
    · exact .inr (by simp [h])

/-- **A STATE CUT DOWN** describes the frame and the world too, under another naming. -/
theorem RelS.norm {W : World} {base n : Nat} {keep : List Nat} {ρ : Nat → Value} {s : St} {a : Act} {w : World} (h : RelS W ρ s a w) (hn : s.t.length = n) (hb : base ≤ s.m.length) {c : Cp} (hc : Ma.norm base keep s = some c) :
    ∃ ρ', RelS W ρ' (expand n keep c) a w ∧ Agree base ρ ρ' ∧ base ≤ (expand n keep c).m.length := by
  unfold Ma.norm at hc
  simp only at hc
  obtain ⟨vs, hvs, hc⟩ := Option.bind_eq_some_iff.1 hc
  obtain ⟨os, hos, rfl⟩ := Option.map_eq_some_iff.1 hc
  obtain ⟨hnd, hge⟩ := keptAt_ok base keep s
  generalize keptAt base keep s = r at hvs hos hnd hge
  have hσ : ∀ j k, sig base r j = some k → from_ base r k = j ∧ k < base + r.length := fun j k hk => sig_from hk
  obtain ⟨hvl, hvg⟩ := renL_get hσ hvs
  obtain ⟨hol, hog⟩ := renOs_get hσ hos
  have holen : os.length = base + r.length := by
    rw [← hol]
    simp
    omega
  have hget : ∀ {j : Nat} {o' : Obj}, os[j]? = some o' → (o' matches .dead) = false → ∃ o, s.m[from_ base r j]? = some o ∧ o.ren (sig base r) = some o' := by
    intro j o' hj hlive
    obtain ⟨o, ho, hr⟩ := hog j o' hj
    have hlive' : o.deadB = false := by rw [(renO_ok (W := W) (w := w) hσ ρ hr).2.2.2]; exact deadB_iff.1 hlive
    refine ⟨o, ?_, hr⟩
    by_cases hjb : j < base
    · rw [List.getElem?_append_left (by simp; omega), List.getElem?_take, if_pos hjb] at ho
      simpa [from_, hjb] using ho
    · rw [List.getElem?_append_right (by simp; omega)] at ho
      simp only [List.length_take, Nat.min_eq_left hb, List.getElem?_map] at ho
      obtain ⟨k, hk, ho⟩ := Option.map_eq_some_iff.1 ho
      have e : from_ base r j = k := by unfold from_; rw [if_neg hjb, List.getD_eq_getElem?_getD, hk]; rfl
      rw [e]
      rw [List.getD_eq_getElem?_getD] at ho
      cases hm : s.m[k]? with
      | none => rw [hm] at ho; subst ho; cases hlive'
      | some o2 => rw [hm] at ho; subst ho; rfl
  have hinj : ∀ {i j : Nat}, i < base + r.length → j < base + r.length → from_ base r i = from_ base r j → i = j := by
    intro i j hi hj he
    unfold from_ at he
    have hmem : ∀ q, q < r.length → base ≤ r.getD q 0 := fun q hq => hge _ (by rw [List.getD_eq_getElem?_getD, List.getElem?_eq_getElem hq]; exact List.getElem_mem _)
    split at he <;> split at he
    · exact he
    · have := hmem (j - base) (by omega); omega
    · have := hmem (i - base) (by omega); omega
    · have h1 : i - base < r.length := by omega
      have h2 : j - base < r.length := by omega
      rw [List.getD_eq_getElem?_getD, List.getD_eq_getElem?_getD, List.getElem?_eq_getElem h1, List.getElem?_eq_getElem h2] at he
      have := (List.getElem_inj (h₀ := h1) (h₁ := h2) hnd).1 (by simpa using he)
      omega
  refine ⟨fun j => ρ (from_ base r j), ⟨⟨?_, fun i sv hi ha => ?_⟩, ⟨h.m.below, fun j o' hj => ?_, fun i j o1 o2 hij hi hj hmu hd b hb1 hb2 => ?_, fun j o' hj => ?_⟩, h.d⟩, fun j hj => ?_, ?_⟩
  · rw [h.t.size, hn]
    simp [expand, setSlots_len]
  · rcases setSlots_get _ _ i sv hi with hi | hi
    · have := List.mem_of_getElem? hi
      simp only [List.mem_replicate] at this
      rw [this.2] at ha
      cases ha
    · obtain ⟨q, hq⟩ := List.mem_iff_getElem?.1 hi
      rw [List.getElem?_zip_eq_some] at hq
      obtain ⟨hk, hv⟩ := hq
      obtain ⟨x, hx, hr⟩ := hvg q sv hv
      obtain ⟨e1, e2, e3⟩ := ren_ok hσ ρ x sv hr
      rw [List.getElem?_map, hk] at hx
      simp only [Option.map_some, Option.some.injEq] at hx
      have hxa : x.isAny = false := by rw [← e2]; exact ha
      refine ⟨by show sv.lt os.length = true; rw [holen]; exact e3, ?_⟩
      obtain ⟨_, h2⟩ := h.t.ev (.tmp i) (by simp only [ev]; rw [hx]; exact hxa)
      simp only [ev, hx, Act.eval] at h2
      have hil : i < a.tmps.size := by
        rw [h.t.size]
        rcases Nat.lt_or_ge i s.t.length with h' | h'
        · exact h'
        · rw [List.getD_eq_getElem?_getD, List.getElem?_eq_none h'] at hx
          subst hx
          cases hxa
      rw [← e1, ← h2, Array.getElem?_eq_getElem hil]
      simp [hil]
  · cases hlive : (match o' with | .dead => true | _ => false)
    · obtain ⟨o, ho, hr⟩ := hget hj hlive
      exact (renO_ok hσ ρ hr).1 _ (h.m.obj _ o ho)
    · cases o' <;> simp at hlive
      trivial
  · have hl1 := mutB_live hmu
    obtain ⟨p1, hp1, hr1⟩ := hget hi hl1
    obtain ⟨p2, hp2, hr2⟩ := hget hj hd
    have hi' : i < base + r.length := by rw [← holen]; exact (List.getElem?_eq_some_iff.1 hi).1
    have hj' : j < base + r.length := by rw [← holen]; exact (List.getElem?_eq_some_iff.1 hj).1
    have g1 := renO_ok (W := W) (w := w) hσ ρ hr1
    have g2 := renO_ok (W := W) (w := w) hσ ρ hr2
    exact h.m.sep _ _ p1 p2 (fun e => hij (hinj hi' hj' e)) hp1 hp2 (by rw [← g1.2.1]; exact hmu) (deadB_iff.2 (by rw [g2.2.2.2]; exact deadB_iff.1 hd)) b hb1 hb2
  · obtain ⟨o, ho, hr⟩ := hog j o' hj
    have := (renO_ok (W := W) (w := w) hσ ρ hr).2.2.1
    show o'.lt os.length = true
    rw [holen]
    exact this
  · show ρ (from_ base r j) = ρ j
    simp [from_, hj]
  · show base ≤ os.length
    rw [holen]
    omega

/-! ### Forms of states. -/
mutual
def svEq : SV → SV → Bool
  | .ptr j o, .ptr k p => decide (j = k) && decide (o = p)
  | .row j, .row k => decide (j = k)
  | .undef, .undef => true
  | .any, .any => true
  | .v (.slice none 0 0), .v (.slice none 0 0) => true
  | .fn f l, .fn g r => decide (f = g) && svEqL l r
  | _, _ => false
def svEqL : List SV → List SV → Bool
  | [], [] => true
  | x :: r, y :: s => svEq x y && svEqL r s
  | _, _ => false
end
mutual
theorem svEq_ok : ∀ (x y : SV), svEq x y = true → x = y
  | .ptr j o, .ptr k p, h => by simp only [svEq, Bool.and_eq_true, decide_eq_true_eq] at h; rw [h.1, h.2]
  | .row j, .row k, h => by simp only [svEq, decide_eq_true_eq] at h; rw [h]
  | .undef, .undef, _ => rfl
  | .any, .any, _ => rfl
  | .v (.slice none 0 0), .v (.slice none 0 0), _ => rfl
  | .fn f l, .fn g r, h => by simp only [svEq, Bool.and_eq_true, decide_eq_true_eq] at h; rw [h.1, svEqL_ok l r h.2]
theorem svEqL_ok : ∀ (x y : List SV), svEqL x y = true → x = y
  | [], [], _ => rfl
  | x :: r, y :: s, h => by simp only [svEqL, Bool.and_eq_true] at h; rw [svEq_ok x y h.1, svEqL_ok r s h.2]
end
/-- Cells: a datum of a kind, or a fixed value. -/
inductive LC where
  | fl (k : K)
  | cst (v : SV)
def LCsT : List LC → Type
  | [] => Unit
  | .fl k :: r => k.T × LCsT r
  | .cst _ :: r => LCsT r
/-- A kept slot's cells, and whether it holds a struct. -/
inductive LV where
  | one (c : LC)
  | agg (l : List LC)
def LV.T : LV → Type
  | .one c => LCsT [c]
  | .agg l => LCsT l
inductive LO where
  | blk (l : List LC) (ty : TypeId) (own : Bool)
  | row (k : K) (ty : TypeId) (own : Bool)
  | raw (l : List LC) (sz n : Nat) (ty : TypeId) (own : Bool)
  | dead
def LO.T : LO → Type
  | .blk l _ _ => LCsT l
  | .row k _ _ => List k.T
  | .raw l _ _ _ _ => LCsT l
  | .dead => Unit
def LVsT : List LV → Type
  | [] => Unit
  | v :: r => v.T × LVsT r
def LOsT : List LO → Type
  | [] => Unit
  | v :: r => v.T × LOsT r
structure Form where
  keep : List Nat
  vals : List LV
  objs : List LO
def Form.T (f : Form) : Type := LVsT f.vals × LOsT f.objs

def decLCs : (l : List LC) → List SV → Option (LCsT l)
  | [], [] => some ()
  | [], _ :: _ => none
  | .fl k :: r, cs => (k.dec (cs.take k.sz)).bind fun a => (decLCs r (cs.drop k.sz)).map fun b => (a, b)
  | .cst _ :: _, [] => none
  | .cst v :: r, c :: cs => bif svEq c v then decLCs r cs else none
def encLCs : (l : List LC) → LCsT l → List SV
  | [], _ => []
  | .fl k :: r, x => k.enc x.1 ++ encLCs r x.2
  | .cst v :: r, x => v :: encLCs r x
theorem decLCs_ok : ∀ (l : List LC) (cs : List SV) (x : LCsT l), decLCs l cs = some x → cs = encLCs l x
  | [], [], _, _ => rfl
  | [], _ :: _, _, h => by simp [decLCs] at h
  | .fl k :: r, cs, x, h => by
    simp only [decLCs] at h
    obtain ⟨a, ha, h⟩ := Option.bind_eq_some_iff.1 h
    obtain ⟨b, hb, h⟩ := Option.map_eq_some_iff.1 h
    subst h
    obtain ⟨h1, _⟩ := dec_enc k _ a ha
    have h2 := decLCs_ok r _ b hb
    show cs = k.enc a ++ encLCs r b
    rw [← h1, ← h2, List.take_append_drop]
  | .cst _ :: _, [], _, h => by simp [decLCs] at h
  | .cst v :: r, c :: cs, x, h => by
    simp only [decLCs] at h
    cases he : svEq c v
    · rw [he] at h; cases h
    · rw [he] at h
      show c :: cs = v :: encLCs r x
      rw [svEq_ok c v he, decLCs_ok r cs x h]
def decLV : (v : LV) → SV → Option v.T
  | .one c, x => decLCs [c] [x]
  | .agg l, x => x.parts.bind (decLCs l)
def encLV : (v : LV) → v.T → SV
  | .one c, x => (encLCs [c] x).headD .any
  | .agg l, x => .agg (encLCs l x)
theorem decLV_ok (v : LV) (s : SV) (x : v.T) (h : decLV v s = some x) : s = encLV v x := by
  cases v with
  | one c =>
    have h : decLCs [c] [s] = some x := h
    have := decLCs_ok [c] [s] x h
    show s = (encLCs [c] x).headD .any
    rw [← this]
    rfl
  | agg l =>
    have h : s.parts.bind (decLCs l) = some x := h
    obtain ⟨cs, hp, h⟩ := Option.bind_eq_some_iff.1 h
    unfold SV.parts at hp
    split at hp
    · injection hp with hp
      subst hp
      show SV.agg _ = SV.agg (encLCs l x)
      rw [← decLCs_ok l _ x h]
    · cases hp
def rowL (k : K) (ty : TypeId) (own : Bool) : Obj → Option (List k.T)
  | .row (.ty k' l) ty' own' => if h : k' = k then (bif decide (ty' = ty) && (own' == own) then some (castL h l) else none) else none
  | _ => none
def blkL (ty : TypeId) (own : Bool) : Obj → Option (List SV)
  | .blk cs ty' own' => bif decide (ty' = ty) && (own' == own) then some cs else none
  | _ => none
def rawL (sz n : Nat) (ty : TypeId) (own : Bool) : Obj → Option (List SV)
  | .row (.sv cs sz' n') ty' own' => bif decide (ty' = ty) && (own' == own) && decide (sz' = sz) && decide (n' = n) then some cs else none
  | _ => none
def decLO : (v : LO) → Obj → Option v.T
  | .blk l ty own, o => (blkL ty own o).bind (decLCs l)
  | .row k ty own, o => rowL k ty own o
  | .raw l sz n ty own, o => (rawL sz n ty own o).bind (decLCs l)
  | .dead, _ => some ()
def encLO : (v : LO) → v.T → Obj
  | .blk l ty own, x => .blk (encLCs l x) ty own
  | .row k ty own, x => .row (.ty k x) ty own
  | .raw l sz n ty own, x => .row (.sv (encLCs l x) sz n) ty own
  | .dead, _ => .dead
/-- A weaker object: the same, or a dead one. -/
theorem decLO_ok (v : LO) (o : Obj) (x : v.T) (h : decLO v o = some x) : o = encLO v x ∨ encLO v x = .dead := by
  cases v with
  | blk l ty own =>
    have h : (blkL ty own o).bind (decLCs l) = some x := h
    obtain ⟨cs, hp, h⟩ := Option.bind_eq_some_iff.1 h
    unfold blkL at hp
    split at hp
    · rename_i cs' ty' own' _
      cases hc : decide (ty' = ty) && (own' == own)
      · rw [hc] at hp; cases hp
      · rw [hc] at hp
        injection hp with hp
        subst hp
        simp only [Bool.and_eq_true, decide_eq_true_eq, beq_iff_eq] at hc
        obtain ⟨rfl, rfl⟩ := hc
        left
        show Obj.blk _ _ _ = Obj.blk (encLCs l x) _ _
        rw [← decLCs_ok l _ x h]
    · cases hp
  | row k ty own =>
    have h : rowL k ty own o = some x := h
    unfold rowL at h
    split at h
    · rename_i k' l ty' own' _
      split at h
      · rename_i hk
        subst hk
        cases hc : decide (ty' = ty) && (own' == own)
        · rw [hc] at h; cases h
        · rw [hc] at h
          injection h with h
          subst h
          simp only [Bool.and_eq_true, decide_eq_true_eq, beq_iff_eq] at hc
          obtain ⟨rfl, rfl⟩ := hc
          exact .inl rfl
      · cases h
    · cases h
  | raw l sz n ty own =>
    have h : (rawL sz n ty own o).bind (decLCs l) = some x := h
    obtain ⟨cs, hp, h⟩ := Option.bind_eq_some_iff.1 h
    unfold rawL at hp
    split at hp
    · rename_i cs' sz' n' ty' own' _
      cases hc : decide (ty' = ty) && (own' == own) && decide (sz' = sz) && decide (n' = n)
      · rw [hc] at hp; cases hp
      · rw [hc] at hp
        injection hp with hp
        subst hp
        simp only [Bool.and_eq_true, decide_eq_true_eq, beq_iff_eq] at hc
        obtain ⟨⟨⟨rfl, rfl⟩, rfl⟩, rfl⟩ := hc
        left
        show Obj.row (.sv _ _ _) _ _ = Obj.row (.sv (encLCs l x) _ _) _ _
        rw [← decLCs_ok l _ x h]
    · cases hp
  | dead => exact .inr rfl
def decLVs : (l : List LV) → List SV → Option (LVsT l)
  | [], [] => some ()
  | v :: r, x :: xs => (decLV v x).bind fun a => (decLVs r xs).map fun b => (a, b)
  | _, _ => none
def encLVs : (l : List LV) → LVsT l → List SV
  | [], _ => []
  | v :: r, x => encLV v x.1 :: encLVs r x.2
theorem decLVs_ok : ∀ (l : List LV) (xs : List SV) (x : LVsT l), decLVs l xs = some x → xs = encLVs l x
  | [], [], _, _ => rfl
  | [], _ :: _, _, h => by simp [decLVs] at h
  | _ :: _, [], _, h => by simp [decLVs] at h
  | v :: r, y :: ys, x, h => by
    simp only [decLVs] at h
    obtain ⟨a, ha, h⟩ := Option.bind_eq_some_iff.1 h
    obtain ⟨b, hb, h⟩ := Option.map_eq_some_iff.1 h
    subst h
    show y :: ys = encLV v a :: encLVs r b
    rw [← decLV_ok v y a ha, ← decLVs_ok r ys b hb]
def decLOs : (l : List LO) → List Obj → Option (LOsT l)
  | [], [] => some ()
  | v :: r, x :: xs => (decLO v x).bind fun a => (decLOs r xs).map fun b => (a, b)
  | _, _ => none
def encLOs : (l : List LO) → LOsT l → List Obj
  | [], _ => []
  | v :: r, x => encLO v x.1 :: encLOs r x.2
theorem decLOs_ok : ∀ (l : List LO) (xs : List Obj) (x : LOsT l), decLOs l xs = some x → xs.length = (encLOs l x).length ∧ ∀ (i : Nat) (o : Obj), (encLOs l x)[i]? = some o → xs[i]? = some o ∨ o = .dead
  | [], [], _, _ => ⟨rfl, fun i o h => by simp [encLOs] at h⟩
  | [], _ :: _, _, h => by simp [decLOs] at h
  | _ :: _, [], _, h => by simp [decLOs] at h
  | v :: r, y :: ys, x, h => by
    simp only [decLOs] at h
    obtain ⟨a, ha, h⟩ := Option.bind_eq_some_iff.1 h
    obtain ⟨b, hb, h⟩ := Option.map_eq_some_iff.1 h
    subst h
    obtain ⟨h1, h2⟩ := decLOs_ok r ys b hb
    refine ⟨by simp [encLOs, h1], fun i o ho => ?_⟩
    have ho : (encLO v a :: encLOs r b)[i]? = some o := ho
    cases i with
    | zero =>
      simp only [List.getElem?_cons_zero, Option.some.injEq] at ho
      subst ho
      rcases decLO_ok v y a ha with h | h
      · exact .inl (by simp [← h])
      · exact .inr h
    | succ i => simpa using h2 i o (by simpa using ho)
def decF (f : Form) (c : Cp) : Option f.T := (decLVs f.vals c.vals).bind fun a => (decLOs f.objs c.objs).map fun b => (a, b)
def encF (f : Form) (x : f.T) : Cp := ⟨encLVs f.vals x.1, encLOs f.objs x.2⟩
/-- A state of the form. -/
def stF (n : Nat) (f : Form) (x : f.T) : St := expand n f.keep (encF f x)
/-- Is it of the form? -/
def isF (n base : Nat) (f : Form) (s : St) : Option f.T := bif decide (s.t.length = n) && decide (base ≤ s.m.length) then (norm base f.keep s).bind (decF f) else none

theorem RelS.form {W : World} {base n : Nat} {f : Form} {ρ : Nat → Value} {s : St} {a : Act} {w : World} (h : RelS W ρ s a w) {x : f.T} (hx : isF n base f s = some x) :
    ∃ ρ', RelS W ρ' (stF n f x) a w ∧ Agree base ρ ρ' ∧ base ≤ (stF n f x).m.length := by
  unfold isF at hx
  cases hc : decide (s.t.length = n) && decide (base ≤ s.m.length)
  · rw [hc] at hx; cases hx
  rw [hc] at hx
  simp only [Bool.and_eq_true, decide_eq_true_eq] at hc
  obtain ⟨c, hn, hx⟩ := Option.bind_eq_some_iff.1 hx
  obtain ⟨ρ', h1, h2, h3⟩ := h.norm hc.1 hc.2 hn
  unfold decF at hx
  obtain ⟨p, hp, hx⟩ := Option.bind_eq_some_iff.1 hx
  obtain ⟨q, hq, hx⟩ := Option.map_eq_some_iff.1 hx
  subst hx
  have hv := decLVs_ok f.vals _ p hp
  obtain ⟨hl, hg⟩ := decLOs_ok f.objs _ q hq
  have ht : (stF n f (p, q)).t = (expand n f.keep c).t := by simp only [stF, expand, encF, hv]
  have hlen : (stF n f (p, q)).m.length = (expand n f.keep c).m.length := hl.symm
  refine ⟨ρ', ⟨⟨by rw [ht]; exact h1.t.size, fun i sv hi ha => ?_⟩, ⟨h1.m.below, fun j o hj => ?_, fun i j o o' hij hi hj hmu hd => ?_, fun j o hj => ?_⟩, h1.d⟩, h2, by rw [hlen]; exact h3⟩
  · rw [hlen]
    exact h1.t.slot i sv (by rw [← ht]; exact hi) ha
  · rcases hg j o hj with hj | rfl
    · exact h1.m.obj j o hj
    · trivial
  · rcases hg i o hi with hi | rfl
    · rcases hg j o' hj with hj | rfl
      · exact h1.m.sep i j o o' hij hi hj hmu hd
      · cases hd
    · cases hmu
  · rw [hlen]
    rcases hg j o hj with hj | rfl
    · exact h1.m.lt j o hj
    · rfl

/-! ### Loops. -/
/-- An exit of a loop ('none': the function's end), and the form of the states there. -/
structure ExitF where
  at_ : Option Nat
  form : Form
def OutT : List ExitF → Type
  | [] => Empty
  | [x] => x.form.T
  | x :: r => x.form.T ⊕ OutT r
def atEq : Option Nat → Option Nat → Bool
  | none, none => true
  | some i, some j => i == j
  | _, _ => false
theorem atEq_ok {a b : Option Nat} (h : atEq a b = true) : a = b := by
  unfold atEq at h
  split at h
  · rfl
  · rw [eq_of_beq h]
  · cases h
/-- A state at an exit, typed. -/
def outF (n base : Nat) : (l : List ExitF) → Option Nat → St → Option (OutT l)
  | [], _, _ => none
  | [x], i, s => bif atEq x.at_ i then isF n base x.form s else none
  | x :: y :: r, i, s => bif atEq x.at_ i then (isF n base x.form s).map Sum.inl else (outF n base (y :: r) i s).map Sum.inr
def sumC {A B X : Type} (o : A ⊕ B) (f : A → X) (g : B → X) : X := match o with | .inl a => f a | .inr b => g b
def goAt {X : Type} (n : Nat) (e : Nat → St → Option X) (r : St → Option X) (x : ExitF) (y : x.form.T) : Option X := match x.at_ with | some i => e i (stF n x.form y) | none => r (stF n x.form y)
/-- Going on from there. -/
def goOn {X : Type} (n : Nat) (e : Nat → St → Option X) (r : St → Option X) : (l : List ExitF) → OutT l → Option X
  | [], o => nomatch o
  | [x], y => goAt n e r x y
  | x :: z :: t, o => sumC o (fun y => goAt n e r x y) (fun o => goOn n e r (z :: t) o)
theorem out_go {X : Type} {n base : Nat} {e : Nat → St → Option X} {r : St → Option X} {x : X} : ∀ (l : List ExitF) (i : Option Nat) (s : St) (y : OutT l), outF n base l i s = some y → goOn n e r l y = some x →
    ∃ (f : Form) (z : f.T), isF n base f s = some z ∧ (match i with | some i => e i (stF n f z) | none => r (stF n f z)) = some x
  | [], _, _, y, _, _ => nomatch y
  | [a], i, s, y, h, hg => by
    simp only [outF] at h
    cases hc : atEq a.at_ i
    · rw [hc] at h; cases h
    · rw [hc] at h
      have := atEq_ok hc
      subst this
      exact ⟨a.form, y, h, hg⟩
  | a :: b :: t, i, s, y, h, hg => by
    simp only [outF] at h
    cases hc : atEq a.at_ i
    · rw [hc] at h
      obtain ⟨y', hy, rfl⟩ := Option.map_eq_some_iff.1 h
      exact out_go (b :: t) i s y' hy hg
    · rw [hc] at h
      obtain ⟨y', hy, rfl⟩ := Option.map_eq_some_iff.1 h
      have := atEq_ok hc
      subst this
      exact ⟨a.form, y', hy, hg⟩

/-- The loop as a function. -/
def loopN {α Y : Type} (step : (α → Option Y) → α → Option Y) : Nat → α → Option Y
  | 0, _ => none
  | n + 1, x => step (loopN step n) x
def FUEL : Nat := 18446744073709551616
structure LoopS where
  n : Nat
  base : Nat
  head : Form
  exits : List ExitF
def loopTr (ls : LoopS) (L : ls.head.T → Option (OutT ls.exits)) : LTr := fun _ base s e r =>
  bif decide (base = ls.base) then (isF ls.n ls.base ls.head s).bind fun x => (L x).bind fun y => goOn ls.n e r ls.exits y else none

theorem loop_ok {P : Program} {E : Env} (hE : EnvOk P E) {b : Code} (hl : LoopsOk P E b) (ls : LoopS) (step : (ls.head.T → Option (OutT ls.exits)) → ls.head.T → Option (OutT ls.exits)) (N : Nat)
    (h : ∀ rec x, ix E ls.base b (stF ls.n ls.head x) (fun s => (isF ls.n ls.base ls.head s).bind rec) (fun i s => outF ls.n ls.base ls.exits (some i) s) (fun s => outF ls.n ls.base ls.exits none s) = step rec x) :
    LOk P b (loopTr ls (loopN step N)) := by
  intro W X base s e r x hx
  unfold loopTr at hx
  cases hb : decide (base = ls.base)
  · rw [hb] at hx; cases hx
  rw [hb] at hx
  simp only [decide_eq_true_eq] at hb
  subst hb
  obtain ⟨x0, hx0, hx⟩ := Option.bind_eq_some_iff.1 hx
  obtain ⟨y, hy, hgo⟩ := Option.bind_eq_some_iff.1 hx
  refine ⟨fun hbase ρ a w Q hs _ he hr => ?_⟩
  obtain ⟨ρ0, hs0, hag0, hle0⟩ := hs.form hx0
  refine wp_loop_ghost (fun k a' w' => ∃ z ρ', RelS W ρ' (stF ls.n ls.head z) a' w' ∧ loopN step k z = some y ∧ Agree ls.base ρ ρ' ∧ ls.base ≤ (stF ls.n ls.head z).m.length) N ⟨x0, ρ0, hs0, hy, hag0, hle0⟩ ?_
  rintro k a' w' ⟨z, ρ', hs', hz, hag, hle⟩
  cases k with
  | zero => cases hz
  | succ k =>
    have hz : step (loopN step k) z = some y := hz
    rw [← h (loopN step k) z] at hz
    refine (ix_ok hE b _ _ _ _ hl hz).code hle ρ' a' w' _ hs' (fun ρ'' s'' a'' w'' hag' hle' hs'' hk => ?_) (fun i ρ'' s'' a'' w'' hag' hle' hs'' hk => ?_) (fun ρ'' s'' a'' w'' hag' hle' hs'' hk => ?_)
    · obtain ⟨z', hz', hk⟩ := Option.bind_eq_some_iff.1 hk
      obtain ⟨ρ3, hs3, hag3, hle3⟩ := hs''.form hz'
      exact ⟨k, by omega, z', ρ3, hs3, hk, (hag.trans hag' (Nat.le_refl _)).trans hag3 (Nat.le_refl _), hle3⟩
    · obtain ⟨f, u, hf, hgo'⟩ := out_go ls.exits (some i) s'' y hk hgo
      obtain ⟨ρ3, hs3, hag3, hle3⟩ := hs''.form hf
      exact he i ρ3 _ a'' w'' ((hag.trans hag' (Nat.le_refl _)).trans hag3 (Nat.le_refl _)) hle3 hs3 hgo'
    · obtain ⟨f, u, hf, hgo'⟩ := out_go ls.exits none s'' y hk hgo
      obtain ⟨ρ3, hs3, hag3, hle3⟩ := hs''.form hf
      exact hr ρ3 _ a'' w'' ((hag.trans hag' (Nat.le_refl _)).trans hag3 (Nat.le_refl _)) hle3 hs3 hgo'

/-! Loops that are run round by round. -/
noncomputable def unr (E : Env) (base : Nat) (b : Code) {X : Type} (e : Nat → St → Option X) (r : St → Option X) : Nat → St → Option X
  | 0, _ => none
  | k + 1, s => ix E base b s (unr E base b e r k) e r
noncomputable def unrollTr (E : Env) (b : Code) (k : Nat) : LTr := fun _ base s e r => unr E base b e r k s
theorem unroll_ok {P : Program} {E : Env} (hE : EnvOk P E) {b : Code} (hl : LoopsOk P E b) (k : Nat) : LOk P b (unrollTr E b k) := by
  intro W X base s e r x hx
  have hx : unr E base b e r k s = some x := hx
  refine ⟨fun hbase ρ a w Q hs _ he hr => wp_loop_rounds k ?_⟩
  have key : ∀ (k : Nat) (s : St) (ρ' : Nat → Value) (a : Act) (w : World), Agree base ρ ρ' → base ≤ s.m.length → RelS W ρ' s a w → unr E base b e r k s = some x → Code.rounds P b Q k a w := by
    intro k
    induction k with
    | zero => intro s ρ' a w _ _ _ h; cases h
    | succ k ih =>
      intro s ρ' a w hag hle hs h
      rw [rounds_succ]
      refine (ix_ok hE b s _ e r hl h).code hle ρ' a w _ hs (fun ρ'' s'' a'' w'' hag' hle' hs'' hk => ?_) (fun i ρ'' s'' a'' w'' hag' hle' hs'' hk => ?_) (fun ρ'' s'' a'' w'' hag' hle' hs'' hk => ?_)
      · exact ih s'' ρ'' a'' w'' (hag.trans hag' (Nat.le_refl _)) hle' hs'' hk
      · exact he i ρ'' s'' a'' w'' (hag.trans hag' (Nat.le_refl _)) hle' hs'' hk
      · exact hr ρ'' s'' a'' w'' (hag.trans hag' (Nat.le_refl _)) hle' hs'' hk
  exact key k s ρ a w (Agree.refl _ _) hbase hs hx

/-! ### Environments out of lists. -/
def look {α : Type 1} : List (Nat × α) → Nat → Option α
  | [], _ => none
  | (n, a) :: r, f => bif Nat.beq f n then some a else look r f
def mkEnv (T : Nat → TI) (B : Nat → Bool) (calls : List (Nat × Con)) (loops : List (Nat × LTr)) : Env := { T := T, B := B, call := look calls, loop := look loops }
def CallsOk (P : Program) : List (Nat × Con) → Prop
  | [] => True
  | (f, g) :: r => TrOk P f g ∧ CallsOk P r
theorem callsNil {P : Program} : CallsOk P [] := trivial
theorem callsCons {P : Program} {f : Nat} {g : Con} {l : List (Nat × Con)} (h : TrOk P f g) (r : CallsOk P l) : CallsOk P ((f, g) :: l) := ⟨h, r⟩
theorem look_ok {P : Program} : ∀ {l : List (Nat × Con)}, CallsOk P l → ∀ f g, look l f = some g → TrOk P f g
  | [], _, f, g, h => by cases h
  | (n, a) :: r, hc, f, g, h => by
    simp only [look] at h
    cases hb : Nat.beq f n
    · rw [hb] at h; exact look_ok hc.2 f g h
    · rw [hb] at h
      have := Nat.eq_of_beq_eq_true hb
      subst this
      injection h with h
      subst h
      exact hc.1
theorem envOk {P : Program} {T : Nat → TI} {B : Nat → Bool} (hT : TOk P T) (hB : ∀ f, B f = true → HasBody P f) {calls : List (Nat × Con)} (hc : CallsOk P calls) (loops : List (Nat × LTr)) : EnvOk P (mkEnv T B calls loops) :=
  ⟨hT, hB, look_ok hc⟩
def codeOf (fn : Func) : Code := match fn.body with | some c => c | none => .skip
/-- The loops of a piece of code, one by one. -/
def LsOk (P : Program) (E : Env) : List Code → Prop
  | [] => True
  | b :: r => (∀ l, E.loop (regId b) = some l → LOk P b l) ∧ LsOk P E r
theorem lsNil {P : Program} {E : Env} : LsOk P E [] := trivial
theorem lsCons {P : Program} {E : Env} {b : Code} {l : List Code} (h : ∀ t, E.loop (regId b) = some t → LOk P b t) (r : LsOk P E l) : LsOk P E (b :: l) := ⟨h, r⟩
theorem ls_mem {P : Program} {E : Env} : ∀ {l : List Code}, LsOk P E l → ∀ b ∈ l, ∀ t, E.loop (regId b) = some t → LOk P b t
  | [], _, b, hb, _, _ => by cases hb
  | c :: r, h, b, hb, t, ht => by
    rcases List.mem_cons.1 hb with rfl | hb
    · exact h.1 t ht
    · exact ls_mem h.2 b hb t ht
theorem loopsOk {P : Program} {E : Env} {c : Code} {l : List Code} (h : loopsOf c = l) (hl : LsOk P E l) : LoopsOk P E c := fun b hb => ls_mem hl b (by rw [← h]; exact hb)
theorem one_loop {P : Program} {E : Env} {b : Code} {t : LTr} (h : E.loop (regId b) = some t) (ht : LOk P b t) : ∀ l, E.loop (regId b) = some l → LOk P b l := by
  intro l hl
  rw [h] at hl
  injection hl with hl
  subst hl
  exact ht
theorem bodyOk {P : Program} {E : Env} {fn : Func} {l : List Code} (h : loopsOf (codeOf fn) = l) (hl : LsOk P E l) : ∀ c, fn.body = some c → LoopsOk P E c := by
  intro c hc
  refine loopsOk ?_ hl
  rw [← h]
  unfold codeOf
  rw [hc]
def nthLoop (c : Code) (i : Nat) : Code := (loopsOf c).getD i .skip
/-- Structs compared cell by cell. -/
def eqAd (a b : Ad) : Bool := beqB a.v6 b.v6 && (acmp .eql a.hi b.hi && acmp .eql a.lo b.lo)
def eqPf (a b : Pf) : Bool := beqB a.ad.v6 b.ad.v6 && (acmp .eql a.ad.hi b.ad.hi && (acmp .eql a.ad.lo b.ad.lo && acmp .eql a.bits b.bits))
def eqLs (a b : Ls) : Bool := beqB a.ad.v6 b.ad.v6 && (acmp .eql a.ad.hi b.ad.hi && (acmp .eql a.ad.lo b.ad.lo && (strcmp .eql a.who b.who && acmp .eql a.upto b.upto)))
def eqOq (a b : Oq) : Bool := acmp .eql a.kind b.kind && (beqB a.pf.ad.v6 b.pf.ad.v6 && (acmp .eql a.pf.ad.hi b.pf.ad.hi && (acmp .eql a.pf.ad.lo b.pf.ad.lo && (acmp .eql a.pf.bits b.pf.bits && (beqB a.ad.v6 b.ad.v6 && (acmp .eql a.ad.hi b.ad.hi && (acmp .eql a.ad.lo b.ad.lo && (strcmp .eql a.who b.who && (acmp .eql a.of_ b.of_ && acmp .eql a.n b.n)))))))))
def eqEn (a b : En) : Bool := acmp .eql a.num b.num && (acmp .eql a.epoch b.epoch && eqOq a.op b.op)
end Go.Ma
