/-
  THE MACHINE, part B: what its states say of a frame and a world; this is kept by the world's growth, by new objects and by stores.
-/
import Derived.Test.YtihapikjcifbaaaDoorMaA
namespace Go.Ma
open Go Go.RowKit

/-- The slice v reads as these cells (n elements of sz cells), and lies at block blk, if it has one. -/
def RowIs (w : World) (v : Value) (n sz : Nat) (cells : List Value) : Prop :=
  cells.length = n * sz ∧ ∃ A cap, v = .slice A n cap ∧ n ≤ cap ∧ cap ≤ maxLen ∧ (A = none → n = 0) ∧
    ∀ a, A = some a → a.block < w.heap.size ∧ ∀ j u, cells[j]? = some u → w.cell? (a.add j) = some u

/-- Object j of the memory, as ρ j, in the world w. -/
def ObjIs (W : World) (w : World) (ρ : Nat → Value) (v : Value) : Obj → Prop
  | .dead => True
  | .blk cs ty own => ∃ (b : Nat) (arr : Array Value), v = .pointer (some ⟨b, 0, none⟩) ∧ (own = true → W.heap.size ≤ b) ∧ w.heap[b]? = some (.cells arr ty (0, 0)) ∧ arr.size = cs.length ∧
      ∀ (i : Nat) (sv : SV), cs[i]? = some sv → sv.isAny = false → arr[i]? = some (den ρ sv)
  | .row c ty own => 0 < c.sz ∧ (∀ u ∈ c.den ρ, oneC u = true) ∧
      if own then w.ownsRow W.heap.size ty c.sz v c.n (c.den ρ) else RowIs w v c.n c.sz (c.den ρ)

/-- The block in which an object lies that may be written. -/
def Obj.mutB : Obj → Bool
  | .blk _ _ own => own
  | .row _ _ own => own
  | .dead => false
def valBlock : Value → Option Nat
  | .pointer (some a) => some a.block
  | .slice (some a) _ _ => some a.block
  | _ => none
def Obj.lt (n : Nat) : Obj → Bool
  | .dead => true
  | .blk cs _ _ => cs.all fun c => c.isAny || c.lt n
  | .row c _ _ => c.lt n

structure RelM (W : World) (ρ : Nat → Value) (m : Mem) (w : World) : Prop where
  below : Below W.heap.size W w
  obj : ∀ (j : Nat) (o : Obj), m[j]? = some o → ObjIs W w ρ (ρ j) o
  sep : ∀ (i j : Nat) (o o' : Obj), i ≠ j → m[i]? = some o → m[j]? = some o' → o.mutB = true → (o' matches .dead) = false → ∀ b, valBlock (ρ i) = some b → valBlock (ρ j) ≠ some b
  lt : ∀ (j : Nat) (o : Obj), m[j]? = some o → o.lt m.length = true
/-- The frame's slots. -/
structure RelT (ρ : Nat → Value) (n : Nat) (t : List SV) (a : Act) : Prop where
  size : a.tmps.size = t.length
  slot : ∀ (i : Nat) (sv : SV), t[i]? = some sv → sv.isAny = false → sv.lt n = true ∧ a.tmps[i]? = some (den ρ sv)
structure RelS (W : World) (ρ : Nat → Value) (s : St) (a : Act) (w : World) : Prop where
  t : RelT ρ s.m.length s.t a
  m : RelM W ρ s.m w
  d : a.defers = []
/-- Two namings agree below n. -/
def Agree (n : Nat) (ρ ρ' : Nat → Value) : Prop := ∀ j, j < n → ρ' j = ρ j
/-- The powers of ten, and the places of bits, that Go's library lays. -/
def pow10s : List Int := (List.range 20).map fun i => ((10 ^ i : Nat) : Int)
def places64 : List Int := [0, 1, 56, 2, 57, 49, 28, 3, 61, 58, 42, 50, 38, 29, 17, 4, 62, 47, 59, 36, 45, 43, 51, 22, 53, 39, 33, 30, 24, 18, 12, 5, 63, 55, 48, 27, 60, 41, 37, 16, 46, 35, 44, 21, 52, 32, 23, 11, 54, 26, 40, 15, 34, 20, 31, 10, 25, 14, 19, 9, 13, 8, 7, 6]
/-- What the machine asks of the package variables that Go's library reads: the length from which on a search turns; the errors of numbers that are none. Vacuous for a program that has them not. -/
structure Glob (P : Program) (w : World) : Prop where
  num : ∀ g, P.globalNamed "internal/bytealg.MaxLen" = some g → ∃ m, w.cell? ⟨g, 0, none⟩ = some (.int .i64 m)
  err : ∀ n g, (n = "strconv.ErrSyntax" ∨ n = "strconv.ErrRange") → P.globalNamed n = some g → ∃ ev, w.cell? ⟨g, 0, none⟩ = some ev ∧ (ev = .nilIface ∨ ∃ te pe, ev = .iface te pe)
  pow : ∀ g, P.globalNamed "internal/strconv.uint64pow10" = some g → ∃ t z, w.heap[g]? = some (.cells (pow10s.map (Value.int .u64)).toArray t z)
  ctz : ∀ g, P.globalNamed "math/bits.deBruijn64tab" = some g → ∃ t z, w.heap[g]? = some (.cells (places64.map (Value.int .u8)).toArray t z)
theorem cell_stays {W w : World} (h : Below W.heap.size W w) {g i : Nat} {v : Value} (hv : W.cell? ⟨g, i, none⟩ = some v) : w.cell? ⟨g, i, none⟩ = some v := by
  have hg : g < W.heap.size := by
    have h2 := hv
    unfold World.cell? at h2
    cases hb : W.heap[g]? with
    | none => rw [hb] at h2; cases h2
    | some o => exact (Array.getElem?_eq_some_iff.1 hb).1
  have hb := h.block g hg
  unfold World.cell? at hv ⊢
  rw [hb]
  exact hv
theorem Glob.mono {P : Program} {W w : World} (h : Glob P W) (hb : Below W.heap.size W w) : Glob P w :=
  ⟨fun g hg => by obtain ⟨m, hm⟩ := h.num g hg; exact ⟨m, cell_stays hb hm⟩, fun n g hn hg => by obtain ⟨ev, he, h2⟩ := h.err n g hn hg; exact ⟨ev, cell_stays hb he, h2⟩, fun g hg => by
    obtain ⟨t, z, h1⟩ := h.pow g hg
    exact ⟨t, z, (hb.block g (Array.getElem?_eq_some_iff.1 h1).1).trans h1⟩, fun g hg => by
    obtain ⟨t, z, h1⟩ := h.ctz g hg
    exact ⟨t, z, (hb.block g (Array.getElem?_eq_some_iff.1 h1).1).trans h1⟩⟩
theorem Glob.none {P : Program} {W : World} (h0 : P.globalNamed "internal/bytealg.MaxLen" = none) (h1 : P.globalNamed "strconv.ErrSyntax" = none) (h2 : P.globalNamed "strconv.ErrRange" = none) (h3 : P.globalNamed "internal/strconv.uint64pow10" = none) (h4 : P.globalNamed "math/bits.deBruijn64tab" = none) : Glob P W :=
  ⟨fun g hg => (by rw [h0] at hg; cases hg), fun n g hn hg => (by rcases hn with rfl | rfl <;> simp_all), fun g hg => (by rw [h3] at hg; cases hg), fun g hg => (by rw [h4] at hg; cases hg)⟩
structure Ctx where
  P : Program
  W : World

/-- A call: of whatever function, at whatever arguments: what comes of it is told by the continuation. -/
structure CallN (G : Ctx) (f : FuncId) (args : List SV) (m : Mem) (k : SV → Mem → Prop) : Prop where
  call : ltL m.length args = true → ∀ ρ w, RelM G.W ρ m w → Calls G.P f (denL ρ args).toArray w fun e w' => ∃ ρ' r m', e = .returned (den ρ' r) ∧ RelM G.W ρ' m' w' ∧ Agree m.length ρ ρ' ∧ m.length ≤ m'.length ∧ (r.isAny = false → r.lt m'.length = true) ∧ k r m'
/-- A piece of code from which the way goes on by the three continuations. -/
structure CodeN (G : Ctx) (base : Nat) (c : Code) (s : St) (n : St → Prop) (e : Nat → St → Prop) (r : St → Prop) : Prop where
  code : base ≤ s.m.length → ∀ ρ a w (Q : Exit → Act → World → Prop), RelS G.W ρ s a w →
    (∀ ρ' s' a' w', Agree base ρ ρ' → base ≤ s'.m.length → RelS G.W ρ' s' a' w' → n s' → Q .normal a' w') →
    (∀ i ρ' s' a' w', Agree base ρ ρ' → base ≤ s'.m.length → RelS G.W ρ' s' a' w' → e i s' → Q (.exit i) a' w') →
    (∀ ρ' s' a' w', Agree base ρ ρ' → base ≤ s'.m.length → RelS G.W ρ' s' a' w' → r s' → Q .ret a' w') →
    c.wp G.P Q a w
/-- A call in a region that draws its order: one value, whatever has been done before. -/
structure QCallN (G : Ctx) (f : FuncId) (args : List SV) (m : Mem) (k : SV → Prop) : Prop where
  ex : ltL m.length args = true → ∃ r : SV, r.lt m.length = true ∧ (∀ ρ w, RelM G.W ρ m w → Calls G.P f (denL ρ args).toArray w fun e w' => e = .returned (den ρ r) ∧ RelM G.W ρ m w') ∧ k r

theorem denL_map (ρ : Nat → Value) : ∀ l : List SV, denL ρ l = l.map (den ρ)
  | [] => rfl
  | x :: r => by simp [denL, denL_map ρ r]
theorem ltL_all (n : Nat) : ∀ l : List SV, ltL n l = l.all (SV.lt n)
  | [] => rfl
  | x :: r => by simp [ltL, ltL_all n r]
@[simp] theorem denL_length (ρ : Nat → Value) (l : List SV) : (denL ρ l).length = l.length := by simp [denL_map]

mutual
theorem den_agree {n : Nat} {ρ ρ' : Nat → Value} (h : Agree n ρ ρ') : ∀ sv : SV, sv.lt n = true → den ρ' sv = den ρ sv
  | .b _, _ => rfl
  | .i _ _, _ => rfl
  | .s _, _ => rfl
  | .v _, _ => rfl
  | .any, _ => rfl
  | .undef, _ => rfl
  | .ptr j off, hl => by simp only [den]; rw [h j (by simpa [SV.lt] using hl)]
  | .row j, hl => by simp only [den]; rw [h j (by simpa [SV.lt] using hl)]
  | .ep j e sz off, hl => by simp only [den]; rw [h j (by simpa [SV.lt] using hl)]
  | .agg l, hl => by simp only [den]; rw [denL_agree h l (by simpa [SV.lt] using hl)]
  | .tup l, hl => by simp only [den]; rw [denL_agree h l (by simpa [SV.lt] using hl)]
  | .fn f l, hl => by simp only [den]; rw [denL_agree h l (by simpa [SV.lt] using hl)]
theorem denL_agree {n : Nat} {ρ ρ' : Nat → Value} (h : Agree n ρ ρ') : ∀ l : List SV, ltL n l = true → denL ρ' l = denL ρ l
  | [], _ => rfl
  | x :: r, hl => by
    simp only [ltL, Bool.and_eq_true] at hl
    simp only [denL]
    rw [den_agree h x hl.1, denL_agree h r hl.2]
end
mutual
theorem lt_mono {n n' : Nat} (h : n ≤ n') : ∀ sv : SV, sv.lt n = true → sv.lt n' = true
  | .b _, _ => rfl
  | .i _ _, _ => rfl
  | .s _, _ => rfl
  | .v _, _ => rfl
  | .any, _ => rfl
  | .undef, _ => rfl
  | .ptr j off, hl => by simp only [SV.lt, decide_eq_true_eq] at *; omega
  | .row j, hl => by simp only [SV.lt, decide_eq_true_eq] at *; omega
  | .ep j e sz off, hl => by simp only [SV.lt, decide_eq_true_eq] at *; omega
  | .agg l, hl => by simp only [SV.lt] at *; exact ltL_mono h l hl
  | .tup l, hl => by simp only [SV.lt] at *; exact ltL_mono h l hl
  | .fn f l, hl => by simp only [SV.lt] at *; exact ltL_mono h l hl
theorem ltL_mono {n n' : Nat} (h : n ≤ n') : ∀ l : List SV, ltL n l = true → ltL n' l = true
  | [], _ => rfl
  | x :: r, hl => by
    simp only [ltL, Bool.and_eq_true] at *
    exact ⟨lt_mono h x hl.1, ltL_mono h r hl.2⟩
end
theorem denL_enc (ρ ρ' : Nat → Value) : ∀ (k : K) (a : k.T), denL ρ' (k.enc a) = denL ρ (k.enc a) := by
  intro k a; cases k <;> rfl
theorem C.den_agree {n : Nat} {ρ ρ' : Nat → Value} (h : Agree n ρ ρ') : ∀ c : C, c.lt n = true → c.den ρ' = c.den ρ
  | .ty k l, _ => by simp only [C.den]; congr 1; funext a; exact denL_enc ρ ρ' k a
  | .sv xs _ _, hl => by simp only [C.den]; exact denL_agree h xs hl
theorem C.lt_mono {n n' : Nat} (h : n ≤ n') : ∀ c : C, c.lt n = true → c.lt n' = true
  | .ty _ _, _ => rfl
  | .sv xs _ _, hl => ltL_mono h xs hl
theorem C.len_n (c : C) : c.len = (c.n : Int) := by cases c <;> rfl
theorem Obj.lt_mono {n n' : Nat} (h : n ≤ n') : ∀ o : Obj, o.lt n = true → o.lt n' = true
  | .dead, _ => rfl
  | .blk cs ty own, hl => by
    simp only [Obj.lt, List.all_eq_true, Bool.or_eq_true] at *
    exact fun c hc => (hl c hc).imp id (Ma.lt_mono h c)
  | .row c _ _, hl => by simp only [Obj.lt] at *; exact C.lt_mono h c hl

theorem Agree.refl (n : Nat) (ρ : Nat → Value) : Agree n ρ ρ := fun _ _ => rfl
theorem Agree.mono {n n' : Nat} {ρ ρ' : Nat → Value} (h : Agree n ρ ρ') (hn : n' ≤ n) : Agree n' ρ ρ' := fun j hj => h j (by omega)
theorem Agree.trans {n n' : Nat} {ρ ρ' ρ'' : Nat → Value} (h : Agree n ρ ρ') (h' : Agree n' ρ' ρ'') (hn : n ≤ n') : Agree n ρ ρ'' :=
  fun j hj => (h' j (by omega)).trans (h j hj)

theorem ObjIs.agree {W w : World} {n : Nat} {ρ ρ' : Nat → Value} (h : Agree n ρ ρ') {v : Value} : ∀ {o : Obj}, o.lt n = true → ObjIs W w ρ v o → ObjIs W w ρ' v o
  | .dead, _, _ => trivial
  | .blk cs ty own, hl, ⟨b, arr, h1, h2, h3, h4, h5⟩ => by
    refine ⟨b, arr, h1, h2, h3, h4, fun i sv hi hs => ?_⟩
    rw [h5 i sv hi hs]
    simp only [Obj.lt, List.all_eq_true, Bool.or_eq_true] at hl
    have := (hl sv (List.mem_of_getElem? hi)).resolve_left (by simp [hs])
    rw [den_agree h sv this]
  | .row c ty own, hl, ⟨h1, h0, h3⟩ => by
    simp only [Obj.lt] at hl
    refine ⟨h1, by rw [C.den_agree h c hl]; exact h0, ?_⟩
    rw [C.den_agree h c hl]
    exact h3

/-! ### The world grows. -/
theorem block_add (a : Addr) (n : Nat) : (a.add n).block = a.block := by unfold Addr.add; split <;> rfl
theorem heap_some_lt {w : World} {b : Nat} {o : Go.Obj} (h : w.heap[b]? = some o) : b < w.heap.size := by
  rcases Nat.lt_or_ge b w.heap.size with h' | h'
  · exact h'
  · rw [Array.getElem?_eq_none h'] at h; cases h

theorem ObjIs.keep {W w w' : World} {ρ : Nat → Value} {v : Value} (hb : ∀ b, valBlock v = some b → b < w.heap.size → w'.heap[b]? = w.heap[b]?) (hs : w.heap.size ≤ w'.heap.size) :
    ∀ {o : Obj}, ObjIs W w ρ v o → ObjIs W w' ρ v o
  | .dead, _ => trivial
  | .blk cs ty own, ⟨b, arr, h1, h2, h3, h4, h5⟩ => by
    subst h1
    exact ⟨b, arr, rfl, h2, by rw [hb b rfl (heap_some_lt h3)]; exact h3, h4, h5⟩
  | .row c ty own, ⟨h1, h0, h3⟩ => by
    refine ⟨h1, h0, ?_⟩
    cases own
    · simp only [Bool.false_eq_true, if_false] at h3 ⊢
      obtain ⟨hl, A, cap, hv, hn, hc, hz, hA⟩ := h3
      refine ⟨hl, A, cap, hv, hn, hc, hz, fun a ha => ?_⟩
      obtain ⟨hlt, hcell⟩ := hA a ha
      subst hv ha
      refine ⟨by omega, fun j u hu => ?_⟩
      rw [World.cell?_of_block (w := w) (by rw [block_add]; exact hb a.block rfl hlt)]
      exact hcell j u hu
    · simp only [if_true] at h3 ⊢
      obtain ⟨hl, h⟩ := h3
      refine ⟨hl, h.imp id ?_⟩
      rintro ⟨g, cap, cur, hv, hg, hh, r⟩
      subst hv
      exact ⟨g, cap, cur, rfl, hg, by rw [hb g rfl (heap_some_lt hh)]; exact hh, r⟩

theorem RelM.later {W : World} {ρ : Nat → Value} {m : Mem} {w w' : World} (h : RelM W ρ m w) (hb : Below w.heap.size w w') : RelM W ρ m w' :=
  ⟨h.below.trans (hb.mono h.below.size), fun j o hj => (h.obj j o hj).keep (fun b _ hlt => hb.block b hlt) hb.size, h.sep, h.lt⟩

theorem RelM.drawn {W : World} {ρ : Nat → Value} {m : Mem} {w : World} (h : RelM W ρ m w) (n : Nat) : RelM W ρ m { w with drawn := n } :=
  h.later ⟨rfl, rfl, rfl, Nat.le_refl _, fun _ _ => rfl⟩

/-- The block of a live object that has one lies in the heap. -/
theorem ObjIs.lt_heap {W w : World} {ρ : Nat → Value} {v : Value} {b : Nat} (hv : valBlock v = some b) : ∀ {o : Obj}, (o matches .dead) = false → ObjIs W w ρ v o → b < w.heap.size
  | .dead, h, _ => by cases h
  | .blk cs ty own, _, ⟨b', arr, h1, h2, h3, h4, h5⟩ => by
    subst h1
    simp only [valBlock, Option.some.injEq] at hv
    subst hv
    exact heap_some_lt h3
  | .row c ty own, _, ⟨h1, h0, h3⟩ => by
    cases own
    · simp only [Bool.false_eq_true, if_false] at h3
      obtain ⟨hl, A, cap, hv', hn, hc, hz, hA⟩ := h3
      subst hv'
      cases A with
      | none => simp [valBlock] at hv
      | some a => simp only [valBlock, Option.some.injEq] at hv; subst hv; exact (hA a rfl).1
    · simp only [if_true] at h3
      obtain ⟨hl, h⟩ := h3
      rcases h with ⟨rfl, _⟩ | ⟨g, cap, cur, hv', hg, hh, r⟩
      · simp [valBlock] at hv
      · subst hv'
        simp only [valBlock, Option.some.injEq] at hv
        subst hv
        exact heap_some_lt hh

/-- The naming with one more object. -/
def upd (ρ : Nat → Value) (n : Nat) (v : Value) : Nat → Value := fun j => if j = n then v else ρ j
theorem upd_same (ρ : Nat → Value) (n : Nat) (v : Value) : upd ρ n v n = v := by simp [upd]
theorem upd_agree (ρ : Nat → Value) (n : Nat) (v : Value) : Agree n ρ (upd ρ n v) := fun j hj => by simp [upd]; omega

/-- A new object behind a step of the world: its block, if it has one that may matter, is none of the elder ones. -/
theorem RelM.push {W : World} {ρ : Nat → Value} {m : Mem} {w w' : World} (h : RelM W ρ m w) (hb : Below w.heap.size w w') {o : Obj} {v : Value} (ho : ObjIs W w' ρ v o) (hl : o.lt m.length = true)
    (hnew : ∀ b, valBlock v = some b → w.heap.size ≤ b) : RelM W (upd ρ m.length v) (m ++ [o]) w' := by
  have hk := h.later hb
  have ha := upd_agree ρ m.length v
  refine ⟨hk.below, fun j o' hj => ?_, fun i j o1 o2 hij hi hj hm hd b hbi hbj => ?_, fun j o' hj => ?_⟩
  · rw [List.getElem?_append] at hj
    split at hj
    · rename_i hlt
      rw [ha j hlt]
      exact (hk.obj j o' hj).agree ha (h.lt j o' hj)
    · rename_i hge
      have : j = m.length := by
        have : j - m.length < 1 := by
          have := List.getElem?_eq_some_iff.1 hj
          obtain ⟨hx, _⟩ := this
          simpa using hx
        omega
      subst this
      simp only [Nat.sub_self, List.getElem?_cons_zero, Option.some.injEq] at hj
      subst hj
      rw [upd_same]
      exact ho.agree ha hl
  · have key : ∀ {k : Nat} {o3 : Obj}, (m ++ [o])[k]? = some o3 → (k < m.length ∧ m[k]? = some o3) ∨ (k = m.length ∧ o3 = o) := by
      intro k o3 hk3
      rw [List.getElem?_append] at hk3
      split at hk3
      · rename_i hlt; exact .inl ⟨hlt, hk3⟩
      · right
        have hx := List.getElem?_eq_some_iff.1 hk3
        obtain ⟨hx, hy⟩ := hx
        simp only [List.length_cons, List.length_nil] at hx
        have : k = m.length := by omega
        subst this
        simp at hy
        exact ⟨rfl, hy.symm⟩
    rcases key hi with ⟨hil, hi'⟩ | ⟨rfl, rfl⟩ <;> rcases key hj with ⟨hjl, hj'⟩ | ⟨rfl, rfl⟩
    · rw [ha i hil] at hbi
      rw [ha j hjl] at hbj
      exact h.sep i j o1 o2 hij hi' hj' hm hd b hbi hbj
    · rw [ha i hil] at hbi
      rw [upd_same] at hbj
      have h1 := hnew b hbj
      have h2 : b < w.heap.size := ObjIs.lt_heap hbi (by cases o1 <;> simp_all [Obj.mutB]) (h.obj i o1 hi')
      omega
    · rw [ha j hjl] at hbj
      rw [upd_same] at hbi
      have h1 := hnew b hbi
      have h2 : b < w.heap.size := ObjIs.lt_heap hbj hd (h.obj j o2 hj')
      omega
    · exact hij rfl
  · rw [List.getElem?_append] at hj
    split at hj
    · exact Obj.lt_mono (by simp) o' (h.lt j o' hj)
    · have : o' = o := by
        have := List.mem_of_getElem? hj
        simpa using this
      subst this
      exact Obj.lt_mono (by simp) o' hl

/-- A new block. -/
theorem RelM.alloc {W : World} {ρ : Nat → Value} {m : Mem} {w : World} (h : RelM W ρ m w) {cs : List SV} {ty : TypeId} {arr : Array Value} (hs : arr.size = cs.length)
    (hc : ∀ (i : Nat) (sv : SV), cs[i]? = some sv → sv.isAny = false → sv.lt m.length = true ∧ arr[i]? = some (den ρ sv)) :
    RelM W (upd ρ m.length (.pointer (some ⟨w.heap.size, 0, none⟩))) (m ++ [.blk cs ty true]) (w.alloc (.cells arr ty)) := by
  refine h.push ((Below.refl _ _).alloc (Nat.le_refl _) _) ⟨w.heap.size, arr, rfl, fun _ => h.below.size, by show (w.heap.push _)[w.heap.size]? = _; simp, hs, fun i sv hi ha => (hc i sv hi ha).2⟩ ?_ ?_
  · simp only [Obj.lt, List.all_eq_true, Bool.or_eq_true]
    intro c hcm
    obtain ⟨i, hi⟩ := List.mem_iff_getElem?.1 hcm
    cases hany : c.isAny
    · exact .inr (hc i c hi hany).1
    · exact .inl rfl
  · intro b hb
    simp only [valBlock, Option.some.injEq] at hb
    omega

/-! ### A store into a block object. -/
theorem setCell_heap (w : World) (b o : Nat) (v : Value) (c : Array Value) (t : TypeId) (fz : Nat × Nat) (h : w.heap[b]? = some (.cells c t fz)) :
    (w.setCell ⟨b, o, none⟩ v).heap[b]? = some (.cells (c.setIfInBounds o v) t fz) := by
  simp [World.setCell, Array.getElem?_modify, h]

def setArr (c : Array Value) : Nat → List Value → Array Value
  | _, [] => c
  | o, v :: r => setArr (c.setIfInBounds o v) (o + 1) r
theorem setArr_size (c : Array Value) (o : Nat) (vs : List Value) : (setArr c o vs).size = c.size := by
  induction vs generalizing c o with
  | nil => rfl
  | cons v r ih => simp [setArr, ih]
theorem setArr_get (c : Array Value) (o : Nat) (vs : List Value) (i : Nat) (h : o + vs.length ≤ c.size) :
    (setArr c o vs)[i]? = if o ≤ i ∧ i < o + vs.length then vs[i - o]? else c[i]? := by
  induction vs generalizing c o with
  | nil => simp [setArr]; omega
  | cons v r ih =>
    simp only [List.length_cons] at h
    simp only [setArr]
    rw [ih _ _ (by simp; omega)]
    by_cases h1 : o + 1 ≤ i ∧ i < o + 1 + r.length
    · rw [if_pos h1, if_pos (by simp only [List.length_cons]; omega)]
      rw [show i - o = (i - (o + 1)) + 1 by omega]
      rfl
    · rw [if_neg h1]
      by_cases h2 : i = o
      · rw [if_pos (by simp only [List.length_cons]; omega), h2, Array.getElem?_setIfInBounds_self_of_lt (by omega)]
        simp
      · rw [if_neg (by simp only [List.length_cons]; omega)]
        rw [Array.getElem?_setIfInBounds_ne (by omega)]

theorem setCells_spec (w : World) (b : Nat) (o : Nat) (vs : List Value) (c : Array Value) (t : TypeId) (fz : Nat × Nat) (h : w.heap[b]? = some (.cells c t fz)) :
    (w.setCells b o vs).heap[b]? = some (.cells (setArr c o vs) t fz) ∧ (∀ k, k ≠ b → (w.setCells b o vs).heap[k]? = w.heap[k]?) ∧
      (w.setCells b o vs).heap.size = w.heap.size ∧ (w.setCells b o vs).os = w.os ∧ (w.setCells b o vs).tape = w.tape ∧ (w.setCells b o vs).output = w.output := by
  induction vs generalizing w o c with
  | nil => exact ⟨h, fun _ _ => rfl, rfl, rfl, rfl, rfl⟩
  | cons v r ih =>
    obtain ⟨h1, h2, h3, h4, h5, h6⟩ := ih (w.setCell ⟨b, o, none⟩ v) (o + 1) (c.setIfInBounds o v) (setCell_heap w b o v c t fz h)
    refine ⟨h1, fun k hk => (h2 k hk).trans (Below.heap_setCell w ⟨b, o, none⟩ v k hk), h3.trans (by simp [World.setCell]), h4.trans rfl, h5.trans rfl, h6.trans rfl⟩

theorem RelM.store {W : World} {ρ : Nat → Value} {m : Mem} {w : World} (h : RelM W ρ m w) {j : Nat} {cs : List SV} {ty : TypeId} (hj : m[j]? = some (.blk cs ty true)) {off : Nat} {xs : List SV}
    (hlen : off + xs.length ≤ cs.length) (hx : ltL m.length xs = true) (b : Nat) (hb : ρ j = .pointer (some ⟨b, 0, none⟩)) :
    RelM W ρ (m.set j (.blk (fillAt cs off xs) ty true)) (w.setCells b off (denL ρ xs)) := by
  obtain ⟨b', arr, h1, h2, h3, h4, h5⟩ := h.obj j _ hj
  have : b' = b := by rw [hb] at h1; injection h1 with h1; injection h1 with h1; injection h1 with h1; exact h1.symm
  subst this
  obtain ⟨s1, s2, s3, s4, s5, s6⟩ := setCells_spec w b' off (denL ρ xs) arr ty (0, 0) h3
  have hjl : j < m.length := (List.getElem?_eq_some_iff.1 hj).1
  have hfl : (fillAt cs off xs).length = cs.length := by simp [fillAt]; omega
  have hfg : ∀ i : Nat, (fillAt cs off xs)[i]? = if off ≤ i ∧ i < off + xs.length then xs[i - off]? else cs[i]? := by
    intro i
    unfold fillAt
    rw [List.append_assoc, List.getElem?_append]
    simp only [List.length_take]
    rw [Nat.min_eq_left (by omega)]
    split
    · rw [if_neg (by omega), List.getElem?_take, if_pos (by omega)]
    · rw [List.getElem?_append]
      split
      · rw [if_pos (by omega)]
      · rw [if_neg (by omega), List.getElem?_drop]
        congr 1
        omega
  have hset : ∀ (k : Nat) (o : Obj), (m.set j (.blk (fillAt cs off xs) ty true))[k]? = some o → (k = j ∧ o = .blk (fillAt cs off xs) ty true) ∨ (k ≠ j ∧ m[k]? = some o) := by
    intro k o hk
    by_cases hkj : k = j
    · subst hkj
      rw [List.getElem?_set_self hjl] at hk
      injection hk with hk
      exact .inl ⟨rfl, hk.symm⟩
    · rw [List.getElem?_set_ne (by omega)] at hk
      exact .inr ⟨hkj, hk⟩
  refine ⟨⟨s4.trans h.below.os, s5.trans h.below.tape, s6.trans h.below.output, by rw [s3]; exact h.below.size, fun k hk => (s2 k (by have := h2 rfl; omega)).trans (h.below.block k hk)⟩, fun k o hk => ?_, fun i k o1 o2 hik hi hk hm hd => ?_, fun k o hk => ?_⟩
  · rcases hset k o hk with ⟨rfl, rfl⟩ | ⟨hne, hk⟩
    · refine ⟨b', _, hb, h2, s1, by rw [setArr_size, h4, hfl], fun i sv hi hany => ?_⟩
      rw [setArr_get _ _ _ _ (by simp; omega)]
      rw [hfg] at hi
      simp only [denL_length]
      split
      · rename_i hin
        rw [if_pos hin] at hi
        rw [denL_map, List.getElem?_map, hi]
        rfl
      · rename_i hin
        rw [if_neg hin] at hi
        exact h5 i sv hi hany
    · cases hdd : (match o with | .dead => true | _ => false)
      · refine (h.obj k o hk).keep (fun b2 hb2 hlt => s2 b2 ?_) (by rw [s3]; omega)
        intro e
        subst e
        exact h.sep j k _ o (by omega) hj hk rfl hdd b2 (by rw [hb]; rfl) hb2
      · cases o <;> simp at hdd
        trivial
  · have hi' : ∃ o1', m[i]? = some o1' ∧ o1'.mutB = true := by
      rcases hset i o1 hi with ⟨rfl, rfl⟩ | ⟨hne, hi⟩
      · exact ⟨_, hj, rfl⟩
      · exact ⟨_, hi, hm⟩
    have hk' : ∃ o2', m[k]? = some o2' ∧ (o2' matches .dead) = false := by
      rcases hset k o2 hk with ⟨rfl, rfl⟩ | ⟨hne, hk⟩
      · exact ⟨_, hj, rfl⟩
      · exact ⟨_, hk, hd⟩
    obtain ⟨o1', hi', hm'⟩ := hi'
    obtain ⟨o2', hk', hd'⟩ := hk'
    exact h.sep i k o1' o2' hik hi' hk' hm' hd'
  · rw [List.length_set]
    rcases hset k o hk with ⟨rfl, rfl⟩ | ⟨hne, hk⟩
    · have hcs := h.lt k _ hj
      simp only [Obj.lt, List.all_eq_true, Bool.or_eq_true] at hcs ⊢
      intro c hc
      simp only [fillAt, List.mem_append] at hc
      rcases hc with (hc | hc) | hc
      · exact hcs c (List.mem_of_mem_take hc)
      · rw [ltL_all, List.all_eq_true] at hx
        exact .inr (hx c hc)
      · exact hcs c (List.mem_of_mem_drop hc)
    · exact h.lt k o hk
end Go.Ma
