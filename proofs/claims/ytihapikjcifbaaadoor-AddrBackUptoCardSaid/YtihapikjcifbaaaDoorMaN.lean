/-
  THE MACHINE, part N: states cut down to what is kept, and their forms.
-/
import Derived.Test.YtihapikjcifbaaaDoorMaE
namespace Go.Ma
open Go Go.RowKit

theorem place_some : ∀ {l : List Nat} {j k : Nat}, place l j = some k → l[k]? = some j
  | x :: r, j, k, h => by
    simp only [place] at h
    split at h
    · rename_i hx
      injection h with h
      subst h
      simpa using hx
    · obtain ⟨k', hk, rfl⟩ := Option.map_eq_some_iff.1 h
      simpa using place_some hk
/-- Object j of the new state is object 'from j' of the elder one. -/
def from_ (base : Nat) (r : List Nat) (j : Nat) : Nat := if j < base then j else r.getD (j - base) 0
theorem sig_from {base : Nat} {r : List Nat} {j k : Nat} (h : sig base r j = some k) : from_ base r k = j ∧ k < base + r.length := by
  unfold sig at h
  split at h
  · rename_i hj
    injection h with h
    subst h
    exact ⟨by simp [from_, hj], by omega⟩
  · obtain ⟨k', hk, rfl⟩ := Option.map_eq_some_iff.1 h
    have := place_some hk
    have hl := (List.getElem?_eq_some_iff.1 this).1
    refine ⟨?_, by omega⟩
    unfold from_
    rw [if_neg (by omega), show base + k' - base = k' by omega, List.getD_eq_getElem?_getD, this]
    rfl

def Obj.deadB : Obj → Bool
  | .dead => true
  | _ => false
theorem deadB_iff {o : Obj} : (o matches .dead) = false ↔ o.deadB = false := by cases o <;> simp [Obj.deadB]
section
variable {σ : Nat → Option Nat} {π : Nat → Nat} {N : Nat} (hσ : ∀ j k, σ j = some k → π k = j ∧ k < N)
include hσ
mutual
theorem ren_ok (ρ : Nat → Value) : ∀ (x y : SV), x.ren σ = some y → den ρ x = den (fun j => ρ (π j)) y ∧ y.isAny = x.isAny ∧ y.lt N = true
  | .ptr j o, y, h => by
    simp only [SV.ren] at h
    obtain ⟨k, hk, rfl⟩ := Option.map_eq_some_iff.1 h
    obtain ⟨h1, h2⟩ := hσ j k hk
    exact ⟨by simp only [den, h1], rfl, by simpa [SV.lt] using h2⟩
  | .row j, y, h => by
    simp only [SV.ren] at h
    obtain ⟨k, hk, rfl⟩ := Option.map_eq_some_iff.1 h
    obtain ⟨h1, h2⟩ := hσ j k hk
    exact ⟨by simp only [den, h1], rfl, by simpa [SV.lt] using h2⟩
  | .ep j i sz o, y, h => by
    simp only [SV.ren] at h
    obtain ⟨k, hk, rfl⟩ := Option.map_eq_some_iff.1 h
    obtain ⟨h1, h2⟩ := hσ j k hk
    exact ⟨by simp only [den, h1], rfl, by simpa [SV.lt] using h2⟩
  | .agg l, y, h => by
    simp only [SV.ren] at h
    obtain ⟨l', hl, rfl⟩ := Option.map_eq_some_iff.1 h
    obtain ⟨h1, h2⟩ := renL_ok ρ l l' hl
    exact ⟨by simp only [den, h1], rfl, h2⟩
  | .tup l, y, h => by
    simp only [SV.ren] at h
    obtain ⟨l', hl, rfl⟩ := Option.map_eq_some_iff.1 h
    obtain ⟨h1, h2⟩ := renL_ok ρ l l' hl
    exact ⟨by simp only [den, h1], rfl, h2⟩
  | .fn f l, y, h => by
    simp only [SV.ren] at h
    obtain ⟨l', hl, rfl⟩ := Option.map_eq_some_iff.1 h
    obtain ⟨h1, h2⟩ := renL_ok ρ l l' hl
    exact ⟨by simp only [den, h1], rfl, h2⟩
  | .b x, y, h => by simp only [SV.ren, Option.some.injEq] at h; subst h; exact ⟨rfl, rfl, rfl⟩
  | .i k x, y, h => by simp only [SV.ren, Option.some.injEq] at h; subst h; exact ⟨rfl, rfl, rfl⟩
  | .s x, y, h => by simp only [SV.ren, Option.some.injEq] at h; subst h; exact ⟨rfl, rfl, rfl⟩
  | .v x, y, h => by simp only [SV.ren, Option.some.injEq] at h; subst h; exact ⟨rfl, rfl, rfl⟩
  | .any, y, h => by simp only [SV.ren, Option.some.injEq] at h; subst h; exact ⟨rfl, rfl, rfl⟩
  | .undef, y, h => by simp only [SV.ren, Option.some.injEq] at h; subst h; exact ⟨rfl, rfl, rfl⟩
theorem renL_ok (ρ : Nat → Value) : ∀ (x y : List SV), renL σ x = some y → denL ρ x = denL (fun j => ρ (π j)) y ∧ ltL N y = true
  | [], y, h => by simp only [renL, Option.some.injEq] at h; subst h; exact ⟨rfl, rfl⟩
  | a :: r, y, h => by
    have _hs := hσ
    simp only [renL] at h
    obtain ⟨b, hb, h⟩ := Option.bind_eq_some_iff.1 h
    obtain ⟨l, hl, rfl⟩ := Option.map_eq_some_iff.1 h
    obtain ⟨h1, _, h2⟩ := ren_ok ρ a b hb
    obtain ⟨h3, h4⟩ := renL_ok ρ r l hl
    exact ⟨by simp only [denL, h1, h3], by simp [ltL, h2, h4]⟩
end
theorem renL_get : ∀ {x y : List SV}, renL σ x = some y → x.length = y.length ∧ ∀ (i : Nat) (b : SV), y[i]? = some b → ∃ a, x[i]? = some a ∧ a.ren σ = some b
  | [], y, h => by simp only [renL, Option.some.injEq] at h; subst h; exact ⟨rfl, fun i b h => by simp at h⟩
  | a :: r, y, h => by
    have _hs := hσ
    simp only [renL] at h
    obtain ⟨b, hb, h⟩ := Option.bind_eq_some_iff.1 h
    obtain ⟨l, hl, rfl⟩ := Option.map_eq_some_iff.1 h
    obtain ⟨h1, h2⟩ := renL_get hl
    refine ⟨by simp [h1], fun i c hc => ?_⟩
    cases i with
    | zero => simp only [List.getElem?_cons_zero, Option.some.injEq] at hc; subst hc; exact ⟨a, rfl, hb⟩
    | succ i => simpa using h2 i c (by simpa using hc)
theorem renO_ok {W w : World} (ρ : Nat → Value) {o o' : Obj} (h : o.ren σ = some o') : (∀ v, ObjIs W w ρ v o → ObjIs W w (fun j => ρ (π j)) v o') ∧ o'.mutB = o.mutB ∧ o'.lt N = true ∧ o.deadB = o'.deadB := by
  unfold Obj.ren at h
  split at h
  · simp only [Option.some.injEq] at h; subst h; exact ⟨fun _ _ => trivial, rfl, rfl, rfl⟩
  · rename_i cs ty own
    obtain ⟨cs', hcs, rfl⟩ := Option.map_eq_some_iff.1 h
    obtain ⟨hl, hg⟩ := renL_get hσ hcs
    refine ⟨fun v ⟨b, arr, h1, h2, h3, h4, h5⟩ => ⟨b, arr, h1, h2, h3, by rw [h4, hl], fun i sv hi ha => ?_⟩, rfl, ?_, rfl⟩
    · obtain ⟨a, ha', hr⟩ := hg i sv hi
      obtain ⟨e1, e2, _⟩ := ren_ok hσ ρ a sv hr
      rw [h5 i a ha' (by rw [← e2]; exact ha), e1]
    · simp only [Obj.lt, List.all_eq_true, Bool.or_eq_true]
      intro c hc
      obtain ⟨i, hi⟩ := List.mem_iff_getElem?.1 hc
      obtain ⟨a, _, hr⟩ := hg i c hi
      exact .inr (ren_ok hσ ρ a c hr).2.2
  · simp only [Option.some.injEq] at h
    subst h
    rename_i k l ty own
    refine ⟨fun v hv => ?_, rfl, rfl, rfl⟩
    have e : (C.ty k l).den (fun j => ρ (π j)) = (C.ty k l).den ρ := by simp only [C.den]; congr 1; funext a; exact denL_enc ρ _ k a
    obtain ⟨h1, h2, h3⟩ := hv
    exact ⟨h1, by rw [e]; exact h2, by rw [e]; exact h3⟩
  · rename_i cs sz n ty own
    obtain ⟨cs', hcs, rfl⟩ := Option.map_eq_some_iff.1 h
    obtain ⟨hd, hlt⟩ := renL_ok hσ ρ cs cs' hcs
    refine ⟨fun v hv => ?_, rfl, hlt, rfl⟩
    have e : (C.sv cs' sz n).den (fun j => ρ (π j)) = (C.sv cs sz n).den ρ := hd.symm
    obtain ⟨h1, h2, h3⟩ := hv
    exact ⟨h1, by rw [e]; exact h2, by rw [e]; exact h3⟩
theorem renOs_get : ∀ {x y : List Obj}, renOs σ x = some y → x.length = y.length ∧ ∀ (i : Nat) (b : Obj), y[i]? = some b → ∃ a, x[i]? = some a ∧ a.ren σ = some b
  | [], y, h => by simp only [renOs, Option.some.injEq] at h; subst h; exact ⟨rfl, fun i b h => by simp at h⟩
  | a :: r, y, h => by
    have _hs := hσ
    simp only [renOs] at h
    obtain ⟨b, hb, h⟩ := Option.bind_eq_some_iff.1 h
    obtain ⟨l, hl, rfl⟩ := Option.map_eq_some_iff.1 h
    obtain ⟨h1, h2⟩ := renOs_get hl
    refine ⟨by simp [h1], fun i c hc => ?_⟩
    cases i with
    | zero => simp only [List.getElem?_cons_zero, Option.some.injEq] at hc; subst hc; exact ⟨a, rfl, hb⟩
    | succ i => simpa using h2 i c (by simpa using hc)
end

theorem addNew_ok {base : Nat} : ∀ (l acc : List Nat), acc.Nodup → (∀ j ∈ acc, base ≤ j) → (addNew base acc l).Nodup ∧ ∀ j ∈ addNew base acc l, base ≤ j
  | [], acc, h1, h2 => ⟨h1, h2⟩
  | j :: r, acc, h1, h2 => by
    simp only [addNew]
    split
    · exact addNew_ok r acc h1 h2
    · rename_i hc
      simp only [Bool.or_eq_true, decide_eq_true_eq, List.contains_eq_mem, not_or] at hc
      refine addNew_ok r _ ?_ ?_
      · rw [List.nodup_append]
        refine ⟨h1, by simp, fun a ha b hb => ?_⟩
        simp only [List.mem_singleton] at hb
        subst hb
        rintro rfl
        exact hc.2 ha
      · intro k hk
        rcases List.mem_append.1 hk with hk | hk
        · exact h2 k hk
        · simp only [List.mem_singleton] at hk
          omega
theorem keptAt_ok (base : Nat) (keep : List Nat) (s : St) : (keptAt base keep s).Nodup ∧ ∀ j ∈ keptAt base keep s, base ≤ j := by
  unfold keptAt
  simp only
  generalize refsL (keep.map fun i => s.t.getD i .any) ++ (s.m.take base).flatMap Obj.refs = l0
  obtain ⟨h1, h2⟩ := addNew_ok (base := base) l0 [] (List.nodup_nil) (fun j hj => by cases hj)
  obtain ⟨h3, h4⟩ := addNew_ok (base := base) ((addNew base [] l0).flatMap fun j => (s.m.getD j .dead).refs) _ h1 h2
  exact addNew_ok (base := base) _ _ h3 h4

theorem setSlots_len : ∀ (l : List (Nat × SV)) (t : List SV), (setSlots t l).length = t.length
  | [], _ => rfl
  | (i, v) :: r, t => by simp [setSlots, setSlots_len r]
theorem setSlots_get : ∀ (l : List (Nat × SV)) (t : List SV) (i : Nat) (x : SV), (setSlots t l)[i]? = some x → t[i]? = some x ∨ ((i, x) ∈ l)
  | [], _, _, _, h => .inl h
  | (j, v) :: r, t, i, x, h => by
    rcases setSlots_get r _ i x h with h | h
    · by_cases hij : i = j
      · subst hij
        have hl : i < t.length := by
          have := (List.getElem?_eq_some_iff.1 h).1
          simpa using this
        rw [List.getElem?_set_self hl] at h
        injection h with h
        subst h
        exact .inr (by simp)
      · rw [List.getElem?_set_ne (by omega)] at h
        exact .inl h
    · exact .inr (by simp [h])

/-- **A STATE CUT DOWN** describes the frame and the world too, under another naming. -/
theorem RelS.norm {W : World} {base n : Nat} {keep : List Nat} {ρ : Nat → Value} {s : St} {a : Act} {w : World} (h : RelS W ρ s a w) (hn : s.t.length = n) (hb : base ≤ s.m.length) {c : Cp} (hc : Ma.norm base keep s = some c) :
    ∃ ρ', RelS W ρ' (expand n keep c) a w ∧ Agree base ρ ρ' ∧ base ≤ (expand n keep c).m.length := by
  unfold Ma.norm at hc
  simp only at hc
  obtain ⟨vs, hvs, hc⟩ := Option.bind_eq_some_iff.1 hc
  obtain ⟨os, hos, rfl⟩ := Option.map_eq_some_iff.1 hc
  obtain ⟨hnd, hge⟩ := keptAt_ok base keep s
  generalize keptAt base keep s = r at hvs hos hnd hge
  have hσ : ∀ j k, sig base r j = some k → from_ base r k = j ∧ k < base + r.length := fun j k hk => sig_from hk
  obtain ⟨hvl, hvg⟩ := renL_get hσ hvs
  obtain ⟨hol, hog⟩ := renOs_get hσ hos
  have holen : os.length = base + r.length := by
    rw [← hol]
    simp
    omega
  have hget : ∀ {j : Nat} {o' : Obj}, os[j]? = some o' → (o' matches .dead) = false → ∃ o, s.m[from_ base r j]? = some o ∧ o.ren (sig base r) = some o' := by
    intro j o' hj hlive
    obtain ⟨o, ho, hr⟩ := hog j o' hj
    have hlive' : o.deadB = false := by rw [(renO_ok (W := W) (w := w) hσ ρ hr).2.2.2]; exact deadB_iff.1 hlive
    refine ⟨o, ?_, hr⟩
    by_cases hjb : j < base
    · rw [List.getElem?_append_left (by simp; omega), List.getElem?_take, if_pos hjb] at ho
      simpa [from_, hjb] using ho
    · rw [List.getElem?_append_right (by simp; omega)] at ho
      simp only [List.length_take, Nat.min_eq_left hb, List.getElem?_map] at ho
      obtain ⟨k, hk, ho⟩ := Option.map_eq_some_iff.1 ho
      have e : from_ base r j = k := by unfold from_; rw [if_neg hjb, List.getD_eq_getElem?_getD, hk]; rfl
      rw [e]
      rw [List.getD_eq_getElem?_getD] at ho
      cases hm : s.m[k]? with
      | none => rw [hm] at ho; subst ho; cases hlive'
      | some o2 => rw [hm] at ho; subst ho; rfl
  have hinj : ∀ {i j : Nat}, i < base + r.length → j < base + r.length → from_ base r i = from_ base r j → i = j := by
    intro i j hi hj he
    unfold from_ at he
    have hmem : ∀ q, q < r.length → base ≤ r.getD q 0 := fun q hq => hge _ (by rw [List.getD_eq_getElem?_getD, List.getElem?_eq_getElem hq]; exact List.getElem_mem _)
    split at he <;> split at he
    · exact he
    · have := hmem (j - base) (by omega); omega
    · have := hmem (i - base) (by omega); omega
    · have h1 : i - base < r.length := by omega
      have h2 : j - base < r.length := by omega
      rw [List.getD_eq_getElem?_getD, List.getD_eq_getElem?_getD, List.getElem?_eq_getElem h1, List.getElem?_eq_getElem h2] at he
      have := (List.getElem_inj (h₀ := h1) (h₁ := h2) hnd).1 (by simpa using he)
      omega
  refine ⟨fun j => ρ (from_ base r j), ⟨⟨?_, fun i sv hi ha => ?_⟩, ⟨h.m.below, fun j o' hj => ?_, fun i j o1 o2 hij hi hj hmu hd b hb1 hb2 => ?_, fun j o' hj => ?_⟩, h.d⟩, fun j hj => ?_, ?_⟩
  · rw [h.t.size, hn]
    simp [expand, setSlots_len]
  · rcases setSlots_get _ _ i sv hi with hi | hi
    · have := List.mem_of_getElem? hi
      simp only [List.mem_replicate] at this
      rw [this.2] at ha
      cases ha
    · obtain ⟨q, hq⟩ := List.mem_iff_getElem?.1 hi
      rw [List.getElem?_zip_eq_some] at hq
      obtain ⟨hk, hv⟩ := hq
      obtain ⟨x, hx, hr⟩ := hvg q sv hv
      obtain ⟨e1, e2, e3⟩ := ren_ok hσ ρ x sv hr
      rw [List.getElem?_map, hk] at hx
      simp only [Option.map_some, Option.some.injEq] at hx
      have hxa : x.isAny = false := by rw [← e2]; exact ha
      refine ⟨by show sv.lt os.length = true; rw [holen]; exact e3, ?_⟩
      obtain ⟨_, h2⟩ := h.t.ev (.tmp i) (by simp only [ev]; rw [hx]; exact hxa)
      simp only [ev, hx, Act.eval] at h2
      have hil : i < a.tmps.size := by
        rw [h.t.size]
        rcases Nat.lt_or_ge i s.t.length with h' | h'
        · exact h'
        · rw [List.getD_eq_getElem?_getD, List.getElem?_eq_none h'] at hx
          subst hx
          cases hxa
      rw [← e1, ← h2, Array.getElem?_eq_getElem hil]
      simp [hil]
  · cases hlive : (match o' with | .dead => true | _ => false)
    · obtain ⟨o, ho, hr⟩ := hget hj hlive
      exact (renO_ok hσ ρ hr).1 _ (h.m.obj _ o ho)
    · cases o' <;> simp at hlive
      trivial
  · have hl1 := mutB_live hmu
    obtain ⟨p1, hp1, hr1⟩ := hget hi hl1
    obtain ⟨p2, hp2, hr2⟩ := hget hj hd
    have hi' : i < base + r.length := by rw [← holen]; exact (List.getElem?_eq_some_iff.1 hi).1
    have hj' : j < base + r.length := by rw [← holen]; exact (List.getElem?_eq_some_iff.1 hj).1
    have g1 := renO_ok (W := W) (w := w) hσ ρ hr1
    have g2 := renO_ok (W := W) (w := w) hσ ρ hr2
    exact h.m.sep _ _ p1 p2 (fun e => hij (hinj hi' hj' e)) hp1 hp2 (by rw [← g1.2.1]; exact hmu) (deadB_iff.2 (by rw [g2.2.2.2]; exact deadB_iff.1 hd)) b hb1 hb2
  · obtain ⟨o, ho, hr⟩ := hog j o' hj
    have := (renO_ok (W := W) (w := w) hσ ρ hr).2.2.1
    show o'.lt os.length = true
    rw [holen]
    exact this
  · show ρ (from_ base r j) = ρ j
    simp [from_, hj]
  · show base ≤ os.length
    rw [holen]
    omega

mutual
theorem svEq_ok : ∀ (x y : SV), svEq x y = true → x = y
  | .ptr j o, .ptr k p, h => by simp only [svEq, Bool.and_eq_true, decide_eq_true_eq] at h; rw [h.1, h.2]
  | .row j, .row k, h => by simp only [svEq, decide_eq_true_eq] at h; rw [h]
  | .undef, .undef, _ => rfl
  | .any, .any, _ => rfl
  | .v (.slice none 0 0), .v (.slice none 0 0), _ => rfl
  | .fn f l, .fn g r, h => by simp only [svEq, Bool.and_eq_true, decide_eq_true_eq] at h; rw [h.1, svEqL_ok l r h.2]
theorem svEqL_ok : ∀ (x y : List SV), svEqL x y = true → x = y
  | [], [], _ => rfl
  | x :: r, y :: s, h => by simp only [svEqL, Bool.and_eq_true] at h; rw [svEq_ok x y h.1, svEqL_ok r s h.2]
end
theorem decLCs_ok : ∀ (l : List LC) (cs : List SV) (x : LCsT l), decLCs l cs = some x → cs = encLCs l x
  | [], [], _, _ => rfl
  | [], _ :: _, _, h => by simp [decLCs] at h
  | .fl k :: r, cs, x, h => by
    simp only [decLCs] at h
    obtain ⟨a, ha, h⟩ := Option.bind_eq_some_iff.1 h
    obtain ⟨b, hb, h⟩ := Option.map_eq_some_iff.1 h
    subst h
    obtain ⟨h1, _⟩ := dec_enc k _ a ha
    have h2 := decLCs_ok r _ b hb
    show cs = k.enc a ++ encLCs r b
    rw [← h1, ← h2, List.take_append_drop]
  | .cst _ :: _, [], _, h => by simp [decLCs] at h
  | .cst v :: r, c :: cs, x, h => by
    simp only [decLCs] at h
    cases he : svEq c v
    · rw [he] at h; cases h
    · rw [he] at h
      show c :: cs = v :: encLCs r x
      rw [svEq_ok c v he, decLCs_ok r cs x h]
theorem decLV_ok (v : LV) (s : SV) (x : v.T) (h : decLV v s = some x) : s = encLV v x := by
  cases v with
  | one c =>
    have h : decLCs [c] [s] = some x := h
    have := decLCs_ok [c] [s] x h
    show s = (encLCs [c] x).headD .any
    rw [← this]
    rfl
  | agg l =>
    have h : s.parts.bind (decLCs l) = some x := h
    obtain ⟨cs, hp, h⟩ := Option.bind_eq_some_iff.1 h
    unfold SV.parts at hp
    split at hp
    · injection hp with hp
      subst hp
      show SV.agg _ = SV.agg (encLCs l x)
      rw [← decLCs_ok l _ x h]
    · cases hp
/-- A weaker object: the same, or a dead one. -/
theorem decLO_ok (v : LO) (o : Obj) (x : v.T) (h : decLO v o = some x) : o = encLO v x ∨ encLO v x = .dead := by
  cases v with
  | blk l ty own =>
    have h : (blkL ty own o).bind (decLCs l) = some x := h
    obtain ⟨cs, hp, h⟩ := Option.bind_eq_some_iff.1 h
    unfold blkL at hp
    split at hp
    · rename_i cs' ty' own' _
      cases hc : decide (ty' = ty) && (own' == own)
      · rw [hc] at hp; cases hp
      · rw [hc] at hp
        injection hp with hp
        subst hp
        simp only [Bool.and_eq_true, decide_eq_true_eq, beq_iff_eq] at hc
        obtain ⟨rfl, rfl⟩ := hc
        left
        show Obj.blk _ _ _ = Obj.blk (encLCs l x) _ _
        rw [← decLCs_ok l _ x h]
    · cases hp
  | row k ty own =>
    have h : rowL k ty own o = some x := h
    unfold rowL at h
    split at h
    · rename_i k' l ty' own' _
      split at h
      · rename_i hk
        subst hk
        cases hc : decide (ty' = ty) && (own' == own)
        · rw [hc] at h; cases h
        · rw [hc] at h
          injection h with h
          subst h
          simp only [Bool.and_eq_true, decide_eq_true_eq, beq_iff_eq] at hc
          obtain ⟨rfl, rfl⟩ := hc
          exact .inl rfl
      · cases h
    · cases h
  | raw l sz n ty own =>
    have h : (rawL sz n ty own o).bind (decLCs l) = some x := h
    obtain ⟨cs, hp, h⟩ := Option.bind_eq_some_iff.1 h
    unfold rawL at hp
    split at hp
    · rename_i cs' sz' n' ty' own' _
      cases hc : decide (ty' = ty) && (own' == own) && decide (sz' = sz) && decide (n' = n)
      · rw [hc] at hp; cases hp
      · rw [hc] at hp
        injection hp with hp
        subst hp
        simp only [Bool.and_eq_true, decide_eq_true_eq, beq_iff_eq] at hc
        obtain ⟨⟨⟨rfl, rfl⟩, rfl⟩, rfl⟩ := hc
        left
        show Obj.row (.sv _ _ _) _ _ = Obj.row (.sv (encLCs l x) _ _) _ _
        rw [← decLCs_ok l _ x h]
    · cases hp
  | dead => exact .inr rfl
theorem decLVs_ok : ∀ (l : List LV) (xs : List SV) (x : LVsT l), decLVs l xs = some x → xs = encLVs l x
  | [], [], _, _ => rfl
  | [], _ :: _, _, h => by simp [decLVs] at h
  | _ :: _, [], _, h => by simp [decLVs] at h
  | v :: r, y :: ys, x, h => by
    simp only [decLVs] at h
    obtain ⟨a, ha, h⟩ := Option.bind_eq_some_iff.1 h
    obtain ⟨b, hb, h⟩ := Option.map_eq_some_iff.1 h
    subst h
    show y :: ys = encLV v a :: encLVs r b
    rw [← decLV_ok v y a ha, ← decLVs_ok r ys b hb]
theorem decLOs_ok : ∀ (l : List LO) (xs : List Obj) (x : LOsT l), decLOs l xs = some x → xs.length = (encLOs l x).length ∧ ∀ (i : Nat) (o : Obj), (encLOs l x)[i]? = some o → xs[i]? = some o ∨ o = .dead
  | [], [], _, _ => ⟨rfl, fun i o h => by simp [encLOs] at h⟩
  | [], _ :: _, _, h => by simp [decLOs] at h
  | _ :: _, [], _, h => by simp [decLOs] at h
  | v :: r, y :: ys, x, h => by
    simp only [decLOs] at h
    obtain ⟨a, ha, h⟩ := Option.bind_eq_some_iff.1 h
    obtain ⟨b, hb, h⟩ := Option.map_eq_some_iff.1 h
    subst h
    obtain ⟨h1, h2⟩ := decLOs_ok r ys b hb
    refine ⟨by simp [encLOs, h1], fun i o ho => ?_⟩
    have ho : (encLO v a :: encLOs r b)[i]? = some o := ho
    cases i with
    | zero =>
      simp only [List.getElem?_cons_zero, Option.some.injEq] at ho
      subst ho
      rcases decLO_ok v y a ha with h | h
      · exact .inl (by simp [← h])
      · exact .inr h
    | succ i => simpa using h2 i o (by simpa using ho)
theorem RelS.form {W : World} {base n : Nat} {f : Form} {ρ : Nat → Value} {s : St} {a : Act} {w : World} (h : RelS W ρ s a w) {x : f.T} (hx : isF n base f s = some x) :
    ∃ ρ', RelS W ρ' (stF n f x) a w ∧ Agree base ρ ρ' ∧ base ≤ (stF n f x).m.length := by
  unfold isF at hx
  cases hc : decide (s.t.length = n) && decide (base ≤ s.m.length)
  · rw [hc] at hx; cases hx
  rw [hc] at hx
  simp only [Bool.and_eq_true, decide_eq_true_eq] at hc
  obtain ⟨c, hn, hx⟩ := Option.bind_eq_some_iff.1 hx
  obtain ⟨ρ', h1, h2, h3⟩ := h.norm hc.1 hc.2 hn
  unfold decF at hx
  obtain ⟨p, hp, hx⟩ := Option.bind_eq_some_iff.1 hx
  obtain ⟨q, hq, hx⟩ := Option.map_eq_some_iff.1 hx
  subst hx
  have hv := decLVs_ok f.vals _ p hp
  obtain ⟨hl, hg⟩ := decLOs_ok f.objs _ q hq
  have ht : (stF n f (p, q)).t = (expand n f.keep c).t := by simp only [stF, expand, encF, hv]
  have hlen : (stF n f (p, q)).m.length = (expand n f.keep c).m.length := hl.symm
  refine ⟨ρ', ⟨⟨by rw [ht]; exact h1.t.size, fun i sv hi ha => ?_⟩, ⟨h1.m.below, fun j o hj => ?_, fun i j o o' hij hi hj hmu hd => ?_, fun j o hj => ?_⟩, h1.d⟩, h2, by rw [hlen]; exact h3⟩
  · rw [hlen]
    exact h1.t.slot i sv (by rw [← ht]; exact hi) ha
  · rcases hg j o hj with hj | rfl
    · exact h1.m.obj j o hj
    · trivial
  · rcases hg i o hi with hi | rfl
    · rcases hg j o' hj with hj | rfl
      · exact h1.m.sep i j o o' hij hi hj hmu hd
      · cases hd
    · cases hmu
  · rw [hlen]
    rcases hg j o hj with hj | rfl
    · exact h1.m.lt j o hj
    · rfl

theorem atEq_ok {a b : Option Nat} (h : atEq a b = true) : a = b := by
  unfold atEq at h
  split at h
  · rfl
  · rw [eq_of_beq h]
  · cases h
theorem out_go {X : Type} {n base : Nat} {e : Nat → St → Option X} {r : St → Option X} {x : X} : ∀ (l : List ExitF) (i : Option Nat) (s : St) (y : OutT l), outF n base l i s = some y → goOn n e r l y = some x →
    ∃ (f : Form) (z : f.T), isF n base f s = some z ∧ (match i with | some i => e i (stF n f z) | none => r (stF n f z)) = some x
  | [], _, _, y, _, _ => nomatch y
  | [a], i, s, y, h, hg => by
    simp only [outF] at h
    cases hc : atEq a.at_ i
    · rw [hc] at h; cases h
    · rw [hc] at h
      have := atEq_ok hc
      subst this
      exact ⟨a.form, y, h, hg⟩
  | a :: b :: t, i, s, y, h, hg => by
    simp only [outF] at h
    cases hc : atEq a.at_ i
    · rw [hc] at h
      obtain ⟨y', hy, rfl⟩ := Option.map_eq_some_iff.1 h
      exact out_go (b :: t) i s y' hy hg
    · rw [hc] at h
      obtain ⟨y', hy, rfl⟩ := Option.map_eq_some_iff.1 h
      have := atEq_ok hc
      subst this
      exact ⟨a.form, y', hy, hg⟩

end Go.Ma
