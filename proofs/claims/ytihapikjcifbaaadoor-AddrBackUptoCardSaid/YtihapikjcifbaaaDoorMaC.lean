/-
  THE MACHINE, part C: facts on types, loads.
-/
import Derived.Test.YtihapikjcifbaaaDoorMaB
namespace Go.Ma
open Go Go.RowKit

/-- What is known of a type is so. -/
structure TyFact (P : Program) (t : TypeId) (ti : TI) : Prop where
  ex : ∃ i d z, P.info? t = some i ∧ P.underlying t = some d ∧ i.zero = some z ∧ ti.size = i.size ∧ ti.zero = z.cells.toList ∧
    ti.agg = (match d with | .struct _ | .array _ _ => true | _ => false) ∧
    (∀ k, ti.kind = .int k → d = .int k) ∧ (ti.kind = .bool → d = .bool) ∧ (ti.kind = .str → d = .string) ∧ (ti.kind = .slice → d = .slice ti.elem) ∧
    (ti.kind = .struct → ∃ fs, d = .struct fs ∧ ti.fields = fs.toList.map fun f => (f.offset, f.type)) ∧ ti.bytes = i.bytes

theorem tyFact_of {P : Program} {t : TypeId} {ti : TI} (h : ti.known = true) (he : { ti with eq := false, k := none } = tiOf P t) : TyFact P t ti := by
  have e1 : ti.known = (tiOf P t).known := by rw [← he]
  have e2 : ti.kind = (tiOf P t).kind := by rw [← he]
  have e3 : ti.agg = (tiOf P t).agg := by rw [← he]
  have e4 : ti.size = (tiOf P t).size := by rw [← he]
  have e5 : ti.zero = (tiOf P t).zero := by rw [← he]
  have e6 : ti.fields = (tiOf P t).fields := by rw [← he]
  have e7 : ti.elem = (tiOf P t).elem := by rw [← he]
  have e8 : ti.bytes = (tiOf P t).bytes := by rw [← he]
  clear he
  rw [e1] at h
  unfold tiOf at h e2 e3 e4 e5 e6 e7 e8
  cases hi : P.info? t with
  | none => simp [hi] at h
  | some i =>
    cases hd : P.underlying t with
    | none => simp [hi, hd] at h
    | some d =>
      simp only [hi, hd] at h e2 e3 e4 e5 e6 e7 e8
      obtain ⟨z, hz⟩ := Option.isSome_iff_exists.1 h
      refine ⟨i, d, z, hi, hd, hz, e4, by rw [e5, hz], by rw [e3]; cases d <;> rfl, ?_, ?_, ?_, ?_, ?_, e8⟩
      · intro k hk; rw [e2] at hk; cases d <;> simp at hk; subst hk; rfl
      · intro hk; rw [e2] at hk; cases d <;> simp at hk; rfl
      · intro hk; rw [e2] at hk; cases d <;> simp at hk; rfl
      · intro hk; rw [e2] at hk; cases d <;> simp at hk; rw [e7]
      · intro hk; rw [e2] at hk; cases d <;> simp at hk; exact ⟨_, rfl, e6⟩

section
variable {P : Program} {t : TypeId} {ti : TI} (h : TyFact P t ti) (w : World)
include h
theorem TyFact.isAgg : (isAgg t).run P w = .ok ti.agg w := by
  obtain ⟨i, d, z, hi, hd, hz, h1, h2, h3, _⟩ := h.ex
  simp only [Go.isAgg, Sem.run_bind, run_underlying hd w, Result.andThen_ok]
  rw [h3]
  cases d <;> rfl
theorem TyFact.sizeOf : (sizeOf t).run P w = .ok ti.size w := by
  obtain ⟨i, d, z, hi, hd, hz, h1, h2, h3, _⟩ := h.ex
  simp [Go.sizeOf, typeInfo, hi, h1]
theorem TyFact.zero : ∃ z, (zeroValue t).run P w = .ok z w ∧ z.cells.toList = ti.zero := by
  obtain ⟨i, d, z, hi, hd, hz, h1, h2, h3, _⟩ := h.ex
  exact ⟨z, by simp [zeroValue, typeInfo, hi, hz], h2.symm⟩
end

theorem den_ofC (ρ : Nat → Value) (v : Value) : den ρ (ofC v) = v := by cases v <;> rfl
theorem den_ofV (ρ : Nat → Value) (v : Value) : den ρ (ofV v) = v := by
  cases v with
  | agg cs =>
    simp only [ofV, den, denL_map, List.map_map]
    congr 1
    rw [show (den ρ ∘ ofC) = id from funext (den_ofC ρ), List.map_id]
  | _ => rfl
theorem ofC_any (v : Value) : (ofC v).isAny = false := by cases v <;> rfl
theorem ofC_lt (n : Nat) (v : Value) : (ofC v).lt n = true := by cases v <;> rfl
theorem ofV_any (v : Value) : (ofV v).isAny = false := by cases v <;> rfl
theorem ofV_lt (n : Nat) (v : Value) : (ofV v).lt n = true := by
  cases v with
  | agg cs => simp [ofV, SV.lt, ltL_all, ofC_lt]
  | _ => rfl

theorem RelT.ev {ρ : Nat → Value} {n : Nat} {t : List SV} {a : Act} (h : RelT ρ n t a) (x : Operand) (hx : (ev t x).isAny = false) : (Ma.ev t x).lt n = true ∧ a.eval x = den ρ (Ma.ev t x) := by
  cases x with
  | tmp i =>
    simp only [Ma.ev, List.getD_eq_getElem?_getD] at hx ⊢
    cases hi : t[i]? with
    | none => simp [hi, SV.isAny] at hx
    | some sv =>
      simp only [hi, Option.getD_some] at hx ⊢
      obtain ⟨h1, h2⟩ := h.slot i sv hi hx
      exact ⟨h1, by simp [Act.eval, h2]⟩
  | const v => exact ⟨ofV_lt n v, (den_ofV ρ v).symm⟩
  | global g => exact ⟨rfl, rfl⟩
  | func f => exact ⟨rfl, rfl⟩

theorem takeCells_spec {cs l : List SV} {off n : Nat} (h : takeCells cs off n = some l) : l = (cs.drop off).take n ∧ l.length = n ∧ (∀ i, i < n → cs[off + i]? = l[i]?) ∧ (∀ c ∈ l, c.one = true) := by
  unfold takeCells at h
  split at h
  · cases h
  · rename_i hlen
    split at h
    · rename_i hall
      injection h with h
      subst h
      refine ⟨rfl, by simp; omega, fun i hi => by rw [List.getElem?_take, if_pos hi, List.getElem?_drop], fun c hc => List.all_eq_true.1 hall c hc⟩
    · cases h
theorem one_any {c : SV} (h : c.one = true) : c.isAny = false := by cases c <;> simp_all [SV.one, SV.isAny]
theorem one_cells {c : SV} (h : c.one = true) : c.cells = [c] := by cases c <;> simp_all [SV.one, SV.cells]
theorem one_den {ρ : Nat → Value} {c : SV} (h : c.one = true) : oneC (den ρ c) = true := by
  cases c with
  | ptr j off => simp only [den, ptrOff]; split <;> rfl
  | row j => simp only [den, sliceVal]; split <;> rfl
  | ep j e sz off => simp only [den, elemPtr]; split <;> rfl
  | v x => simpa [SV.one, den] using h
  | _ => first | rfl | simp_all [SV.one]
theorem one_cells_den {ρ : Nat → Value} {c : SV} (h : c.cells.all (·.one) = true) (hany : c.isAny = false) : (den ρ c).cells.toList = denL ρ c.cells := by
  cases c with
  | agg l => simp [den, Value.cells, SV.cells]
  | any => cases hany
  | tup l => simp [SV.cells, SV.one] at h
  | v x =>
    simp only [SV.cells, List.all_cons, List.all_nil, Bool.and_true, SV.one] at h
    cases x <;> simp_all [den, Value.cells, SV.cells, denL, oneC]
  | ptr j off => simp only [den, ptrOff, SV.cells, denL]; split <;> rfl
  | row j => simp only [den, sliceVal, SV.cells, denL]; split <;> rfl
  | ep j e sz off => simp only [den, elemPtr, SV.cells, denL]; split <;> rfl
  | _ => rfl
theorem oneC_cell' {v : Value} (h : oneC v = true) : v.oneCell' = true := by cases v <;> simp_all [oneC, Value.oneCell']

/-- Where a block object lies. -/
theorem RelM.blk {W : World} {ρ : Nat → Value} {m : Mem} {w : World} (h : RelM W ρ m w) {j : Nat} {cs : List SV} {ty : TypeId} {own : Bool} (hj : m[j]? = some (.blk cs ty own)) :
    ∃ (b : Nat) (arr : Array Value), ρ j = .pointer (some ⟨b, 0, none⟩) ∧ w.heap[b]? = some (.cells arr ty (0, 0)) ∧ arr.size = cs.length ∧ (∀ (i : Nat) (sv : SV), cs[i]? = some sv → sv.isAny = false → arr[i]? = some (den ρ sv)) := by
  obtain ⟨b, arr, h1, _, h3, h4, h5⟩ := h.obj j _ hj
  exact ⟨b, arr, h1, h3, h4, h5⟩

theorem cells_of_blk {w : World} {b : Nat} {arr : Array Value} {ty : TypeId} (h : w.heap[b]? = some (.cells arr ty (0, 0))) (i : Nat) : w.cell? ⟨b, i, none⟩ = arr[i]? := by
  simp [World.cell?, h]
theorem add_zero_addr (b o i : Nat) : (⟨b, o, none⟩ : Addr).add i = ⟨b, o + i, none⟩ := by unfold Addr.add; split <;> simp_all

/-- A variable's value is read out of known cells. -/
theorem run_loadVar {P : Program} {t : TypeId} {ti : TI} (hT : TyFact P t ti) {w : World} {a : Addr} {ρ : Nat → Value} {l : List SV} {v : SV} (hl : l.length = ti.size) (hv : valOf ti l = some v)
    (hc : ∀ (i : Nat) (c : SV), l[i]? = some c → w.cell? (a.add i) = some (den ρ c)) : (loadVar t a).run P w = .ok (den ρ v) w := by
  unfold valOf at hv
  simp only [loadVar, Sem.run_bind, hT.isAgg, Result.andThen_ok]
  cases hagg : ti.agg
  · simp only [hagg, Bool.false_eq_true, if_false] at hv ⊢
    match l, hv with
    | [c], hv =>
      injection hv with hv
      subst hv
      have := hc 0 c rfl
      simp only [Addr.add, if_true] at this
      simp [this]
  · simp only [hagg, if_true] at hv ⊢
    injection hv with hv
    subst hv
    simp only [Sem.run_bind, hT.sizeOf, Result.andThen_ok]
    have := run_loadCells_list (P := P) w a (denL ρ l) (fun j u hu => by
      rw [denL_map, List.getElem?_map] at hu
      obtain ⟨c, hcj, rfl⟩ := Option.map_eq_some_iff.1 hu
      exact hc j c hcj)
    rw [denL_length, hl] at this
    simp [this, den]
end Go.Ma
