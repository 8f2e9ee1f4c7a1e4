/-
  THE MACHINE, part D: the quiet operations do what the machine says.
-/
import Derived.Test.YtihapikjcifbaaaDoorMaC
namespace Go.Ma
open Go Go.RowKit

/-- Values of bools, integers and strings, one by one the same? -/
def veqL : List Value → List Value → Bool
  | [], [] => true
  | .bool x :: r, .bool y :: r' => x == y && veqL r r'
  | .int _ x :: r, .int _ y :: r' => x == y && veqL r r'
  | .string x :: r, .string y :: r' => x.toList == y.toList && veqL r r'
  | _, _ => false
def vkinds : List Value → List Value → Bool
  | [], [] => true
  | .bool _ :: r, .bool _ :: r' => vkinds r r'
  | .int k _ :: r, .int k' _ :: r' => decide (k = k') && vkinds r r'
  | .string _ :: r, .string _ :: r' => vkinds r r'
  | _, _ => false
/-- '==' and '!=' at a struct's type compare cell by cell. -/
def StructEq (P : Program) (t : TypeId) (zero : List Value) : Prop :=
  ∀ (xs ys : List Value) (x y : Operand) (w : World), vkinds zero xs = true → vkinds zero ys = true →
    (do eqGuard .eql t x y (.agg xs.toArray) (.agg ys.toArray); binOp .eql t (.agg xs.toArray) (.agg ys.toArray)).run P w = .ok (.bool (veqL xs ys)) w ∧
    (do eqGuard .neq t x y (.agg xs.toArray) (.agg ys.toArray); binOp .neq t (.agg xs.toArray) (.agg ys.toArray)).run P w = .ok (.bool (!veqL xs ys)) w

/-- The function has a body. -/
def HasBody (P : Program) (f : FuncId) : Prop := ∃ fn, P.funcs[f]? = some fn ∧ fn.body.isSome = true ∧ (fn.name == "runtime.NumGoroutine") = false
structure TOk (P : Program) (T : Nat → TI) : Prop where
  ty : ∀ t, (T t).known = true → TyFact P t (T t)
  eq : ∀ t, (T t).eq = true → StructEq P t (T t).zero
  mixed : P.follows .mixedOrders = true

theorem kindsOk_den (ρ : Nat → Value) : ∀ (z : List Value) (a : List SV), kindsOk z a = true → vkinds z (denL ρ a) = true
  | [], [], _ => rfl
  | .bool _ :: r, .b _ :: r', h => by simp only [kindsOk] at h; simpa [vkinds, denL, den] using kindsOk_den ρ r r' h
  | .int k _ :: r, .i k' _ :: r', h => by simp only [kindsOk, Bool.and_eq_true, decide_eq_true_eq] at h; simpa [vkinds, denL, den, h.1] using kindsOk_den ρ r r' h.2
  | .string _ :: r, .s _ :: r', h => by simp only [kindsOk] at h; simpa [vkinds, denL, den] using kindsOk_den ρ r r' h
theorem eqCells_bool (ρ : Nat → Value) : ∀ (a b : List SV) (e : Bool), eqCells a b = some e → e = veqL (denL ρ a) (denL ρ b)
  | [], [], e, h => by injection h with h; subst h; rfl
  | x :: r, y :: r', e, h => by
    simp only [eqCells] at h
    split at h
    · cases h
    · rename_i e1 he1
      have hx : ∀ s s' : List Value, veqL (den ρ x :: s) (den ρ y :: s') = (e1 && veqL s s') := by
        intro s s'
        cases x <;> cases y <;> simp_all [eqCell, den, veqL, beqB, acmp, strcmp] <;> subst he1 <;> rfl
      simp only [denL, hx]
      split at h
      · rename_i hr
        simp only [Bool.and_eq_true, List.isEmpty_iff] at hr
        obtain ⟨rfl, rfl⟩ := hr
        injection h with h
        subst h
        simp [denL, veqL]
      · obtain ⟨f, hf, rfl⟩ := Option.map_eq_some_iff.1 h
        rw [eqCells_bool ρ r r' f hf]
  | [], _ :: _, e, h => by simp [eqCells] at h
  | _ :: _, [], e, h => by simp [eqCells] at h

theorem add_add' (a : Addr) (i j : Nat) : (a.add i).add j = a.add (i + j) := by
  unfold Addr.add
  by_cases hi : i = 0 <;> by_cases hj : j = 0 <;> simp [hi, hj, Nat.add_assoc]

/-- What is claimed of a quiet operation. -/
def QOk (P : Program) (W : World) (ρ : Nat → Value) (m : Mem) (a : Act) (o : Oper) (e : Bool) (v : SV) : Prop :=
  e = true → ∃ x, (v.isAny = false → v.lt m.length = true ∧ x = den ρ v) ∧ ∀ w, RelM W ρ m w → (execOp a.eval o).run P w = .ok (.value x) w

section
variable {P : Program} {T : Nat → TI} {W : World} {ρ : Nat → Value} {m : Mem} {a : Act} {o : Oper} {e : Bool} {v : SV} {t : List SV}

theorem q_move {x : Operand} (ho : o.op = .move x ∨ o.op = .assign x) (ht : RelT ρ m.length t a) : QOk P W ρ m a o true (ev t x) := by
  intro _
  refine ⟨a.eval x, fun hv => ht.ev x hv, fun w _ => ?_⟩
  rcases ho with ho | ho <;> simp [execOp, ho]

theorem q_pick {c x y : Operand} {b : Bool} (ho : o.op = .pick c x y) (ht : RelT ρ m.length t a) (hc : ev t c = .b b) : QOk P W ρ m a o true (if b then ev t x else ev t y) := by
  intro _
  have h1 := (ht.ev c (by rw [hc]; rfl)).2
  rw [hc] at h1
  cases b
  · refine ⟨a.eval y, fun hv => ht.ev y hv, fun w _ => ?_⟩
    simp [execOp, ho, h1, den, asBool]
  · refine ⟨a.eval x, fun hv => ht.ev x hv, fun w _ => ?_⟩
    simp [execOp, ho, h1, den, asBool]

theorem q_load_ptr (hT : TOk P T) {ty : TypeId} {x : Operand} {j off : Nat} {cs l : List SV} {bt : TypeId} {own : Bool} (ho : o.op = .load ty x) (ht : RelT ρ m.length t a) (hx : ev t x = .ptr j off) (hj : m[j]? = some (.blk cs bt own))
    (hk : (T ty).known = true) (hl : takeCells cs off (T ty).size = some l) (hv : valOf (T ty) l = some v) (hlt : (Obj.blk cs bt own).lt m.length = true) : QOk P W ρ m a o true v := by
  intro _
  have h1 := (ht.ev x (by rw [hx]; rfl)).2
  rw [hx] at h1
  obtain ⟨rfl, hlen, hget, hone⟩ := takeCells_spec hl
  refine ⟨den ρ v, fun _ => ⟨?_, rfl⟩, fun w hw => ?_⟩
  · simp only [Obj.lt, List.all_eq_true, Bool.or_eq_true] at hlt
    have hcl : ∀ c ∈ (cs.drop off).take (T ty).size, c.lt m.length = true := fun c hc => (hlt c (List.mem_of_mem_drop (List.mem_of_mem_take hc))).resolve_left (by simp [one_any (hone c hc)])
    unfold valOf at hv
    split at hv
    · injection hv with hv; subst hv; simp only [SV.lt, ltL_all, List.all_eq_true]; exact hcl
    · split at hv
      · rename_i c heq; injection hv with hv; subst hv; exact hcl _ (by rw [heq]; simp)
      · cases hv
  · obtain ⟨b, arr, hb, hh, hs, hc⟩ := hw.blk hj
    simp only [den, hb, ptrOff, add_zero_addr] at h1
    have := run_loadVar (hT.ty ty hk) (w := w) (a := ⟨b, 0 + off, none⟩) (ρ := ρ) hlen hv (fun i c hi => by
      rw [add_zero_addr, cells_of_blk hh]
      have hil : i < (T ty).size := by rw [← hlen]; exact (List.getElem?_eq_some_iff.1 hi).1
      have := hget i hil
      rw [hi] at this
      rw [Nat.zero_add]
      exact hc _ c this (one_any (hone c (List.mem_of_getElem? hi))))
    rw [Nat.zero_add] at h1 this
    simp [execOp, ho, h1, Instr.loadAt, Instr.sureAddr, this]

theorem RelM.row {w : World} (h : RelM W ρ m w) {j : Nat} {c : C} {ty : TypeId} {own : Bool} (hj : m[j]? = some (.row c ty own)) :
    0 < c.sz ∧ ∃ A cap, ρ j = .slice A c.n cap ∧ (c.den ρ).length = c.n * c.sz ∧ (A = none → c.n = 0) ∧ c.n ≤ cap ∧ cap ≤ maxLen ∧
      (∀ u ∈ c.den ρ, oneC u = true) ∧ ∀ ad, A = some ad → ∀ (i : Nat) (u : Value), (c.den ρ)[i]? = some u → w.cell? (ad.add i) = some u := by
  obtain ⟨h1, h0, h3⟩ := h.obj j _ hj
  refine ⟨h1, ?_⟩
  cases own
  · simp only [Bool.false_eq_true, if_false] at h3
    obtain ⟨hl, A, cap, hv, hn, hc, hz, hA⟩ := h3
    exact ⟨A, cap, hv, hl, hz, hn, hc, h0, fun ad had => (hA ad had).2⟩
  · simp only [if_true] at h3
    obtain ⟨hl, h⟩ := h3
    rcases h with ⟨hv, hn⟩ | ⟨g, cap, cur, hv, hg, hh, hn, hcap, hsz, hxs⟩
    · exact ⟨none, 0, by rw [hv, hn], hl, fun _ => hn, by omega, by unfold maxLen; omega, h0, fun _ h => by cases h⟩
    · refine ⟨_, cap, hv, hl, (fun h => by cases h), hn, hcap, h0, fun ad had i u hu => ?_⟩
      injection had with had
      subst had
      rw [add_zero_addr, Nat.zero_add, cells_of_blk hh]
      rw [← hxs, List.getElem?_take] at hu
      split at hu
      · rw [Array.getElem?_toList] at hu; exact hu
      · cases hu

theorem q_load_ep (hT : TOk P T) {ty : TypeId} {x : Operand} {j sz off rsz rn : Nat} {n : Int} {cs l : List SV} {bt : TypeId} {own : Bool} {e : Bool} (ho : o.op = .load ty x) (ht : RelT ρ m.length t a) (hx : ev t x = .ep j n sz off)
    (hj : m[j]? = some (.row (.sv cs rsz rn) bt own)) (hk : (T ty).known = true) (hl : takeCells cs (n.toNat * sz + off) (T ty).size = some l) (hv : valOf (T ty) l = some v)
    (hsz : 0 < (T ty).size) (hlt : ltL m.length cs = true) : QOk P W ρ m a o e v := by
  intro _
  have h1 := (ht.ev x (by rw [hx]; rfl)).2
  rw [hx] at h1
  obtain ⟨rfl, hlen, hget, hone⟩ := takeCells_spec hl
  refine ⟨den ρ v, fun _ => ⟨?_, rfl⟩, fun w hw => ?_⟩
  · rw [ltL_all, List.all_eq_true] at hlt
    have hcl : ∀ c ∈ (cs.drop (n.toNat * sz + off)).take (T ty).size, c.lt m.length = true := fun c hc => hlt c (List.mem_of_mem_drop (List.mem_of_mem_take hc))
    unfold valOf at hv
    split at hv
    · injection hv with hv; subst hv; simp only [SV.lt, ltL_all, List.all_eq_true]; exact hcl
    · split at hv
      · rename_i c heq; injection hv with hv; subst hv; exact hcl _ (by rw [heq]; simp)
      · cases hv
  · obtain ⟨hs0, A, cap, hρ, hlen', hnone, _, _, _, hcell⟩ := hw.row hj
    simp only [C.den, denL_length, C.n, C.sz] at hlen' hcell hnone hρ
    have hne : 0 < cs.length := by
      have : ((cs.drop (n.toNat * sz + off)).take (T ty).size).length ≤ cs.length := by simp; omega
      omega
    cases A with
    | none => have := hnone rfl; rw [this] at hlen'; omega
    | some ad =>
      simp only [den, hρ, elemPtr] at h1
      have hrun := run_loadVar (hT.ty ty hk) (w := w) (a := (ad.add (n.toNat * sz)).add off) (ρ := ρ) hlen hv (fun i c hi => by
        have hil : i < (T ty).size := by rw [← hlen]; exact (List.getElem?_eq_some_iff.1 hi).1
        have hg := hget i hil
        rw [hi] at hg
        rw [Ma.add_add', Ma.add_add']
        exact hcell ad rfl _ _ (by rw [denL_map, List.getElem?_map, ← Nat.add_assoc, hg]; rfl))
      simp [execOp, ho, h1, Instr.loadAt, Instr.sureAddr, hrun]

theorem inRange_iff {i n : Int} : inRange i n = true ↔ 0 ≤ i ∧ i < n := by simp [inRange]

theorem q_field (hT : TOk P T) {ty ft : TypeId} {x : Operand} {f off : Nat} {l c : List SV} (ho : o.op = .field ty x f) (ht : RelT ρ m.length t a) (hf : (T ty).fields[f]? = some (off, ft)) (hkd : (T ty).kind = .struct)
    (hx : ev t x = .agg l) (hk : (T ty).known = true) (hkf : (T ft).known = true) (hc : takeCells l off (T ft).size = some c) (hv : valOf (T ft) c = some v) : QOk P W ρ m a o true v := by
  intro _
  have h0 := ht.ev x (by rw [hx]; rfl)
  rw [hx] at h0
  obtain ⟨h0, h1⟩ := h0
  obtain ⟨rfl, hlen, hget, hone⟩ := takeCells_spec hc
  simp only [SV.lt, ltL_all, List.all_eq_true] at h0
  refine ⟨den ρ v, fun _ => ⟨?_, rfl⟩, fun w hw => ?_⟩
  · have hcl : ∀ c ∈ (l.drop off).take (T ft).size, c.lt m.length = true := fun c hc => h0 c (List.mem_of_mem_drop (List.mem_of_mem_take hc))
    unfold valOf at hv
    split at hv
    · injection hv with hv; subst hv; simp only [SV.lt, ltL_all, List.all_eq_true]; exact hcl
    · split at hv
      · rename_i c heq; injection hv with hv; subst hv; exact hcl _ (by rw [heq]; simp)
      · cases hv
  · obtain ⟨i, d, z, hi, hd, hz, g1, g2, g3, g4, g5, g6, g7, g8, _⟩ := (hT.ty ty hk).ex
    obtain ⟨fs, rfl, hfs⟩ := g8 hkd
    rw [hfs, List.getElem?_map] at hf
    obtain ⟨fd, hfd, hfe⟩ := Option.map_eq_some_iff.1 hf
    simp only [Prod.mk.injEq] at hfe
    obtain ⟨rfl, rfl⟩ := hfe
    rw [Array.getElem?_toList] at hfd
    have hpart : (part fd.type (denL ρ l).toArray fd.offset).run P w = .ok (den ρ v) w := by
      unfold valOf at hv
      simp only [part, Sem.run_bind, (hT.ty _ hkf).isAgg, Result.andThen_ok]
      cases hagg : (T fd.type).agg
      · simp only [hagg, Bool.false_eq_true, if_false] at hv ⊢
        split at hv
        · rename_i c heq
          injection hv with hv
          subst hv
          have h1len : (T fd.type).size = 1 := by rw [← hlen, heq]; rfl
          have := hget 0 (by omega)
          rw [heq, Nat.add_zero] at this
          simp only [List.getElem?_toArray, denL_map, List.getElem?_map, this]
          simp
        · cases hv
      · simp only [hagg, if_true] at hv ⊢
        injection hv with hv
        subst hv
        simp only [Sem.run_bind, (hT.ty _ hkf).sizeOf, Result.andThen_ok, Sem.run_pure, den]
        congr 2
        apply Array.ext'
        simp only [Array.toList_extract, List.extract_eq_drop_take', denL_map]
        simp [List.map_take, List.map_drop, List.drop_take]
    simp [execOp, ho, h1, den, Instr.field, run_underlying hd, hfd, asAgg, hpart]

theorem TyFact.fieldOf {ty ft : TypeId} {ti : TI} (h : TyFact P ty ti) {f off : Nat} (hf : ti.fields[f]? = some (off, ft)) (hkd : ti.kind = .struct) :
    ∃ (fs : Array Field) (fd : Field), P.underlying ty = some (.struct fs) ∧ fs[f]? = some fd ∧ fd.offset = off ∧ fd.type = ft := by
  obtain ⟨i, d, z, hi, hd, hz, g1, g2, g3, g4, g5, g6, g7, g8, _⟩ := h.ex
  obtain ⟨fs, rfl, hfs⟩ := g8 hkd
  rw [hfs, List.getElem?_map] at hf
  obtain ⟨fd, hfd, hfe⟩ := Option.map_eq_some_iff.1 hf
  simp only [Prod.mk.injEq] at hfe
  rw [Array.getElem?_toList] at hfd
  exact ⟨fs, fd, hd, hfd, hfe.1, hfe.2⟩

theorem q_fieldAddr_ptr (hT : TOk P T) {ty ft : TypeId} {x : Operand} {f fo j off : Nat} {cs : List SV} {bt : TypeId} {own : Bool} (ho : o.op = .fieldAddr ty x f) (ht : RelT ρ m.length t a) (hf : (T ty).fields[f]? = some (fo, ft)) (hkd : (T ty).kind = .struct)
    (hx : ev t x = .ptr j off) (hj : m[j]? = some (.blk cs bt own)) (hk : (T ty).known = true) (hkf : (T ft).known = true) (hs : (T ft).size ≠ 0) : QOk P W ρ m a o true (.ptr j (off + fo)) := by
  intro _
  have h0 := ht.ev x (by rw [hx]; rfl)
  rw [hx] at h0
  obtain ⟨h0, h1⟩ := h0
  refine ⟨_, fun _ => ⟨by simpa [SV.lt] using h0, rfl⟩, fun w hw => ?_⟩
  obtain ⟨b, arr, hb, hh, _, hc⟩ := hw.blk hj
  obtain ⟨fs, fd, hd, hfd, rfl, rfl⟩ := (hT.ty ty hk).fieldOf hf hkd
  simp only [den, hb, ptrOff] at h1 ⊢
  simp [execOp, ho, h1, Instr.fieldAt, run_underlying hd, hfd, Instr.sureAddr, fieldPlace, (hT.ty _ hkf).sizeOf, hs, add_add']

theorem q_fieldAddr_ep (hT : TOk P T) {ty ft : TypeId} {x : Operand} {f fo j off sz : Nat} {e' : Int} {c : C} {bt : TypeId} {own : Bool} (ho : o.op = .fieldAddr ty x f) (ht : RelT ρ m.length t a) (hf : (T ty).fields[f]? = some (fo, ft)) (hkd : (T ty).kind = .struct)
    (hx : ev t x = .ep j e' sz off) (hj : m[j]? = some (.row c bt own)) (hk : (T ty).known = true) (hkf : (T ft).known = true) (hs : (T ft).size ≠ 0) : QOk P W ρ m a o (inRange e' c.len) (.ep j e' sz (off + fo)) := by
  intro he
  obtain ⟨b1, b2⟩ := inRange_iff.1 he
  rw [C.len_n] at b2
  have h0 := ht.ev x (by rw [hx]; rfl)
  rw [hx] at h0
  obtain ⟨h0, h1⟩ := h0
  refine ⟨_, fun _ => ⟨by simpa [SV.lt] using h0, rfl⟩, fun w hw => ?_⟩
  obtain ⟨hs0, A, cap, hρ, hlen', hnone, _⟩ := RelM.row hw hj
  obtain ⟨ad, rfl⟩ : ∃ ad, A = some ad := by
    cases A with
    | none => have := hnone rfl; omega
    | some ad => exact ⟨ad, rfl⟩
  obtain ⟨fs, fd, hd, hfd, rfl, rfl⟩ := (hT.ty ty hk).fieldOf hf hkd
  simp only [den, hρ, elemPtr] at h1 ⊢
  simp [execOp, ho, h1, Instr.fieldAt, run_underlying hd, hfd, Instr.sureAddr, fieldPlace, (hT.ty _ hkf).sizeOf, hs, add_add', Nat.add_assoc]

theorem run_intCmp (op : BinOp) (hop : isCmp op = true) (x y : Int) (w : World) : (Op.intCmp op x y).run P w = .ok (.bool (acmp op x y)) w := by
  cases op <;> first | rfl | cases hop

theorem q_binop_int {bo : BinOp} {ty yt : TypeId} {x y : Operand} {k : IntKind} {ex ey : Int} (ho : o.op = .binOp bo ty x y yt) (ht : RelT ρ m.length t a) (hx : ev t x = .i k ex) (hy : ev t y = .i k ey)
    (hn : bo ≠ .shl ∧ bo ≠ .shr) (hq : (bo = .quo ∨ bo = .rem) → e = true → ey ≠ 0) : QOk P W ρ m a o e (if isCmp bo then .b (acmp bo ex ey) else .i k (aop bo k ex ey)) := by
  intro he
  have h1 := (ht.ev x (by rw [hx]; rfl)).2
  have h2 := (ht.ev y (by rw [hy]; rfl)).2
  rw [hx] at h1; rw [hy] at h2
  simp only [den] at h1 h2
  refine ⟨_, fun _ => ⟨by split <;> rfl, rfl⟩, fun w hw => ?_⟩
  have hz : (bo = .quo ∨ bo = .rem) → ey ≠ 0 := fun h => hq h he
  cases bo
  case quo => simp [execOp, ho, h1, h2, eqGuard, binOp, isCmp, den, aop, Op.intDiv, hz]
  case rem => simp [execOp, ho, h1, h2, eqGuard, binOp, isCmp, den, aop, Op.intDiv, hz]
  case shl => exact absurd rfl hn.1
  case shr => exact absurd rfl hn.2
  all_goals simp [execOp, ho, h1, h2, eqGuard, binOp, isCmp, den, aop, acmp, Op.intArith, Op.intBits, Op.intCmp] <;> rfl

theorem wrap_ok {n : Int} (h : i64ok n = true) : IntKind.i64.wrap n = n := by
  rw [i64ok_iff] at h
  exact IntWalk.i64_in n (by omega)
theorem iop_ok {bo : BinOp} (hr : isRing bo = true) {x y : Int} (h : i64ok (iop bo x y) = true) : aop bo .i64 x y = iop bo x y := by
  cases bo <;> first | (cases hr; done) | exact wrap_ok h

theorem q_shift {bo : BinOp} {ty yt : TypeId} {x y : Operand} {k k' : IntKind} {ex ey : Int} (ho : o.op = .binOp bo ty x y yt) (ht : RelT ρ m.length t a) (hx : ev t x = .i k ex) (hy : ev t y = .i k' ey)
    (hn : bo = .shl ∨ bo = .shr) : QOk P W ρ m a o (decide (0 ≤ ey)) (.i k (aop bo k ex ey)) := by
  intro he
  have h1 := (ht.ev x (by rw [hx]; rfl)).2
  have h2 := (ht.ev y (by rw [hy]; rfl)).2
  rw [hx] at h1; rw [hy] at h2
  simp only [den] at h1 h2
  have he' : 0 ≤ ey := of_decide_eq_true he
  refine ⟨_, fun _ => ⟨rfl, rfl⟩, fun w hw => ?_⟩
  have hneg : ¬ ey < 0 := by omega
  rcases hn with rfl | rfl <;> simp [execOp, ho, h1, h2, eqGuard, binOp, den, aop, Op.shift, hneg]

theorem run_equal_bool {ty : TypeId} (hd : P.underlying ty = some .bool) (x y : Bool) (w : World) : (Op.equal ty (.bool x) (.bool y)).run P w = .ok (x == y) w := by
  have h : ∀ d : Nat, (Op.equalIn (d + 1) ty (.bool x) (.bool y)).run P w = .ok (x == y) w := fun d => by simp [Op.equalIn, run_underlying hd]
  exact h 9999
theorem q_binop_bool (hT : TOk P T) {bo : BinOp} {ty yt : TypeId} {x y : Operand} {ex ey : Bool} (ho : o.op = .binOp bo ty x y yt) (ht : RelT ρ m.length t a) (hx : ev t x = .b ex) (hy : ev t y = .b ey)
    (hk : (T ty).known = true) (hkd : (T ty).kind = .bool) (hb : bo = .eql ∨ bo = .neq) : QOk P W ρ m a o true (.b (if bo = .eql then beqB ex ey else !(beqB ex ey))) := by
  intro _
  have h1 := (ht.ev x (by rw [hx]; rfl)).2
  have h2 := (ht.ev y (by rw [hy]; rfl)).2
  rw [hx] at h1; rw [hy] at h2
  simp only [den] at h1 h2
  obtain ⟨i, d, z, hi, hd, hz, g1, g2, g3, g4, g5, _⟩ := (hT.ty ty hk).ex
  have := g5 hkd; subst this
  refine ⟨_, fun _ => ⟨rfl, rfl⟩, fun w hw => ?_⟩
  rcases hb with rfl | rfl <;> simp [execOp, ho, h1, h2, eqGuard, binOp, run_equal_bool hd, den, beqB]

theorem q_binop_str {bo : BinOp} {ty yt : TypeId} {x y : Operand} {ex ey : ByteArray} (ho : o.op = .binOp bo ty x y yt) (ht : RelT ρ m.length t a) (hx : ev t x = .s ex) (hy : ev t y = .s ey)
    (hb : isCmp bo = true) : QOk P W ρ m a o true (.b (strcmp bo ex ey)) := by
  intro _
  have h1 := (ht.ev x (by rw [hx]; rfl)).2
  have h2 := (ht.ev y (by rw [hy]; rfl)).2
  rw [hx] at h1; rw [hy] at h2
  simp only [den] at h1 h2
  refine ⟨_, fun _ => ⟨rfl, rfl⟩, fun w hw => ?_⟩
  cases bo <;> first | (cases hb; done) | simp [execOp, ho, h1, h2, eqGuard, binOp, Op.stringOp, den, strcmp]

theorem q_binop_cat {ty yt : TypeId} {x y : Operand} {ex ey : ByteArray} (ho : o.op = .binOp .add ty x y yt) (ht : RelT ρ m.length t a) (hx : ev t x = .s ex) (hy : ev t y = .s ey) :
    QOk P W ρ m a o (roomS (catS ex ey)) (.s (catS ex ey)) := by
  intro he
  have h1 := (ht.ev x (by rw [hx]; rfl)).2
  have h2 := (ht.ev y (by rw [hy]; rfl)).2
  rw [hx] at h1; rw [hy] at h2
  simp only [den] at h1 h2
  have he := Nat.le_of_ble_eq_true he
  simp only [catS, ByteArray.size_append] at he
  refine ⟨_, fun _ => ⟨rfl, rfl⟩, fun w hw => ?_⟩
  have hneg : ¬ ((ex.size + ey.size : Nat) : Int) > IntKind.i64.max := by
    have : IntKind.i64.max = 9223372036854775807 := by decide
    rw [this]
    omega
  simp only [execOp, ho, h1, h2, eqGuard, binOp, Op.stringOp, hneg, if_false, den, catS]
  rfl

theorem q_binop_agg (hT : TOk P T) {bo : BinOp} {ty yt : TypeId} {x y : Operand} {la lb : List SV} {ee : Bool} (ho : o.op = .binOp bo ty x y yt) (ht : RelT ρ m.length t a) (hx : ev t x = .agg la) (hy : ev t y = .agg lb)
    (hk : (T ty).eq = true) (hka : kindsOk (T ty).zero la = true) (hkb : kindsOk (T ty).zero lb = true) (hee : eqCells la lb = some ee) (hb : bo = .eql ∨ bo = .neq) : QOk P W ρ m a o true (.b (if bo = .eql then ee else !ee)) := by
  intro _
  have h1 := (ht.ev x (by rw [hx]; rfl)).2
  have h2 := (ht.ev y (by rw [hy]; rfl)).2
  rw [hx] at h1; rw [hy] at h2
  simp only [den] at h1 h2
  refine ⟨_, fun _ => ⟨rfl, rfl⟩, fun w hw => ?_⟩
  obtain ⟨e1, e2⟩ := hT.eq ty hk (denL ρ la) (denL ρ lb) x y w (kindsOk_den ρ _ _ hka) (kindsOk_den ρ _ _ hkb)
  rw [← eqCells_bool ρ la lb ee hee] at e1 e2
  rcases hb with rfl | rfl
  · simp only [execOp, ho, h1, h2, if_true]
    rw [Sem.run_bind, e1]
    rfl
  · simp only [execOp, ho, h1, h2]
    rw [Sem.run_bind, e2]
    simp [den]

theorem q_not {ty : TypeId} {x : Operand} {ex : Bool} (ho : o.op = .unOp .not ty x) (ht : RelT ρ m.length t a) (hx : ev t x = .b ex) : QOk P W ρ m a o true (.b (!ex)) := by
  intro _
  have h1 := (ht.ev x (by rw [hx]; rfl)).2
  rw [hx] at h1
  simp only [den] at h1
  exact ⟨_, fun _ => ⟨rfl, rfl⟩, fun w hw => by simp [execOp, ho, h1, Op.unary, den]⟩

theorem q_convert (hT : TOk P T) {src dst : TypeId} {x : Operand} {k k' : IntKind} {ex : Int} (ho : o.op = .convert src dst x) (ht : RelT ρ m.length t a) (hx : ev t x = .i k' ex)
    (hs : (T src).known = true) (hd : (T dst).known = true) (hk : (T dst).kind = .int k) : QOk P W ρ m a o true (.i k (convI k ex)) := by
  intro _
  have h1 := (ht.ev x (by rw [hx]; rfl)).2
  rw [hx] at h1
  simp only [den] at h1
  obtain ⟨_, d1, _, _, u1, _⟩ := (hT.ty src hs).ex
  obtain ⟨_, d2, _, _, u2, _, _, _, _, g4, _⟩ := (hT.ty dst hd).ex
  have := g4 k hk; subst this
  refine ⟨_, fun _ => ⟨rfl, rfl⟩, fun w hw => ?_⟩
  simp [execOp, ho, h1, convert, run_underlying u1, run_underlying u2, Conv.intToInt, den, convI]

theorem q_extract {x : Operand} {i : Nat} {l : List SV} (ho : o.op = .extract x i) (ht : RelT ρ m.length t a) (hx : ev t x = .tup l) (hi : l[i]? = some v) (hv : v.isAny = false) : QOk P W ρ m a o true v := by
  intro _
  have h0 := ht.ev x (by rw [hx]; rfl)
  rw [hx] at h0
  obtain ⟨h0, h1⟩ := h0
  simp only [SV.lt, ltL_all, List.all_eq_true] at h0
  simp only [den] at h1
  refine ⟨_, fun _ => ⟨h0 v (List.mem_of_getElem? hi), rfl⟩, fun w hw => ?_⟩
  have : (denL ρ l).toArray[i]? = some (den ρ v) := by rw [List.getElem?_toArray, denL_map, List.getElem?_map, hi]; rfl
  simp [execOp, ho, h1, Instr.extract, this]

theorem q_nilCheck {x : Operand} {j off : Nat} {cs : List SV} {bt : TypeId} {own : Bool} (ho : o.op = .nilCheck x) (ht : RelT ρ m.length t a) (hx : ev t x = .ptr j off) (hj : m[j]? = some (.blk cs bt own)) : QOk P W ρ m a o true (.ptr j off) := by
  intro _
  have h0 := ht.ev x (by rw [hx]; rfl)
  rw [hx] at h0
  obtain ⟨h0, h1⟩ := h0
  refine ⟨_, fun _ => ⟨h0, rfl⟩, fun w hw => ?_⟩
  obtain ⟨b, arr, hb, hh, _, hc⟩ := hw.blk hj
  simp only [den, hb, ptrOff] at h1 ⊢
  simp [execOp, ho, h1]

theorem fold_set (off : Nat) : ∀ (vs : List Value) (j : Nat) (cells : Array Value), off + j + vs.length ≤ cells.size →
    (vs.zipIdx j).foldl (fun cs (p : Value × Nat) => cs.setIfInBounds (off + p.2) p.1) cells = ((cells.toList.take (off + j)) ++ vs ++ cells.toList.drop (off + j + vs.length)).toArray
  | [], j, cells, _ => by simp
  | v :: r, j, cells, h => by
    simp only [List.length_cons] at h
    simp only [List.zipIdx_cons, List.foldl_cons]
    rw [fold_set off r (j + 1) _ (by simp; omega)]
    apply Array.ext'
    simp only [Array.toList_setIfInBounds]
    apply List.ext_getElem?
    intro i
    simp only [List.length_cons]
    have hl : cells.toList.length = cells.size := by simp
    rcases Nat.lt_trichotomy i (off + j) with hi | hi | hi
    · rw [List.getElem?_append_left (by simp; omega), List.getElem?_append_left (by simp; omega), List.getElem?_append_left (by simp; omega), List.getElem?_append_left (by simp; omega),
        List.getElem?_take, List.getElem?_take, if_pos (by omega), if_pos hi, List.getElem?_set_ne (by omega)]
    · subst hi
      rw [List.getElem?_append_left (by simp; omega), List.getElem?_append_left (by simp; omega), List.getElem?_append_left (by simp; omega), List.getElem?_append_right (by simp; omega),
        List.getElem?_take, if_pos (by omega), List.getElem?_set_self (by omega)]
      simp
      rw [Nat.min_eq_left (by omega)]
      simp
    · by_cases hi2 : i < off + j + 1 + r.length
      · rw [List.getElem?_append_left (by simp; omega), List.getElem?_append_right (by simp; omega), List.getElem?_append_left (by simp; omega), List.getElem?_append_right (by simp; omega)]
        simp only [List.length_take, List.length_set, hl]
        rw [Nat.min_eq_left (by omega), Nat.min_eq_left (by omega), show i - (off + j) = (i - (off + (j + 1))) + 1 by omega]
        rfl
      · rw [List.getElem?_append_right (by simp; omega), List.getElem?_append_right (by simp; omega)]
        simp only [List.length_append, List.length_take, List.length_set, hl, List.length_cons]
        rw [Nat.min_eq_left (by omega), Nat.min_eq_left (by omega), List.getElem?_drop, List.getElem?_drop, List.getElem?_set_ne (by omega)]
        congr 1
        omega

theorem fill_ok (hT : TOk P T) (places : Nat → Option (Nat × Nat)) (fs : List (Nat × TypeId)) (hp : ∀ (i off : Nat) (ft : TypeId), fs[i]? = some (off, ft) → (T ft).known = true → places i = some (off, (T ft).size)) (ht : RelT ρ m.length t a) :
    ∀ (ps : List (Nat × Operand)) (cs cs' : List SV), buildS T t fs ps cs = some cs' → ltL m.length cs = true →
      Instr.fill places (denL ρ cs).toArray (ps.map fun (i, x) => (i, a.eval x)) = some (denL ρ cs').toArray ∧ ltL m.length cs' = true
  | [], cs, cs', h, hl => by simp only [buildS, Option.some.injEq] at h; subst h; exact ⟨rfl, hl⟩
  | (i, x) :: r, cs, cs', h, hl => by
    simp only [buildS] at h
    cases hf : fs[i]? with
    | none => simp [hf] at h
    | some of =>
      obtain ⟨off, ft⟩ := of
      simp only [hf] at h
      split at h
      · cases h
      · rename_i hc
        simp only [Bool.or_eq_true, Bool.not_eq_true', not_or, Bool.not_eq_true, bne_eq_false_iff_eq, decide_eq_false_iff_not, Bool.not_eq_false] at hc
        obtain ⟨⟨⟨⟨h1, h2⟩, h3⟩, h4⟩, h5⟩ := hc
        obtain ⟨hlt, hev⟩ := ht.ev x h1
        have hcells : (a.eval x).cells.toList = denL ρ (ev t x).cells := by rw [hev]; exact one_cells_den h3 h1
        have hsz : (a.eval x).cells.size = (ev t x).cells.length := by rw [← Array.length_toList, hcells, denL_length]
        have hlc : ltL m.length (ev t x).cells = true := by
          cases hsv : ev t x with
          | agg l => rw [hsv] at hlt; simpa [SV.cells, SV.lt] using hlt
          | _ => simp_all [SV.cells, ltL]
        simp only [List.map_cons, Instr.fill, hp i off ft hf h2]
        rw [if_neg (by simp [hsz, h4]; omega)]
        have hfold : (a.eval x).cells.zipIdx.foldl (fun cs (p : Value × Nat) => cs.setIfInBounds (off + p.2) p.1) (denL ρ cs).toArray = (denL ρ (fillAt cs off (ev t x).cells)).toArray := by
          rw [← Array.foldl_toList, Array.toList_zipIdx, hcells, fold_set off _ 0 _ (by simp; omega)]
          simp only [fillAt, denL_map, List.map_append, List.map_take, List.map_drop, List.length_map, Nat.add_zero]
        have := fill_ok hT places fs hp ht r (fillAt cs off (ev t x).cells) cs' h (by
          simp only [ltL_all, List.all_eq_true, fillAt, List.mem_append] at hl hlc ⊢
          rintro c ((hc | hc) | hc)
          · exact hl c (List.mem_of_mem_take hc)
          · exact hlc c hc
          · exact hl c (List.mem_of_mem_drop hc))
        rw [← hfold] at this
        exact this

theorem places_of (hT : TOk P T) : ∀ (fs : List Field), (∀ f ∈ fs, (T f.type).known = true) → fs.mapM (fun f => (P.info? f.type).map fun i => (f.offset, i.size)) = some (fs.map fun f => (f.offset, (T f.type).size))
  | [], _ => rfl
  | f :: r, h => by
    obtain ⟨i, d, z, hi, hd, hz, g1, _⟩ := (hT.ty f.type (h f (List.mem_cons_self ..))).ex
    simp [List.mapM_cons, hi, places_of hT r (fun f hf => h f (List.mem_cons_of_mem _ hf)), g1]

theorem q_build (hT : TOk P T) {ty : TypeId} {ps : Array (Nat × Operand)} {cs : List SV} (ho : o.op = .build ty ps) (ht : RelT ρ m.length t a) (hkd : (T ty).kind = .struct) (hk : (T ty).known = true)
    (hfk : (T ty).fields.all (fun f => (T f.2).known) = true) (hb : buildS T t (T ty).fields ps.toList ((T ty).zero.map ofC) = some cs) : QOk P W ρ m a o true (.agg cs) := by
  intro _
  obtain ⟨i, d, z, hi, hd, hz, g1, g2, g3, g4, g5, g6, g7, g8, _⟩ := (hT.ty ty hk).ex
  obtain ⟨fs, rfl, hfs⟩ := g8 hkd
  have hzl : ltL m.length ((T ty).zero.map ofC) = true := by simp [ltL_all, ofC_lt]
  have hzd : denL ρ ((T ty).zero.map ofC) = (T ty).zero := by
    rw [denL_map, List.map_map, show (den ρ ∘ ofC) = id from funext (den_ofC ρ), List.map_id]
  rw [hfs] at hfk
  simp only [List.all_map, List.all_eq_true, Function.comp] at hfk
  have hpl := places_of hT fs.toList (fun f hf => hfk f hf)
  obtain ⟨hfill, hlt⟩ := fill_ok hT (fun x => (fs.toList.map fun f => (f.offset, (T f.type).size)).toArray[x]?) (T ty).fields (fun i off ft h _ => by
    rw [hfs, List.getElem?_map] at h
    obtain ⟨f, hf, he⟩ := Option.map_eq_some_iff.1 h
    simp only [Prod.mk.injEq] at he
    obtain ⟨rfl, rfl⟩ := he
    simp only [List.getElem?_toArray, List.getElem?_map, hf]
    rfl) ht ps.toList _ cs hb hzl
  refine ⟨_, fun _ => ⟨by simpa [SV.lt] using hlt, rfl⟩, fun w hw => ?_⟩
  have hbuilt : P.built ty (ps.map fun (i, x) => (i, a.eval x)).toList = some (denL ρ cs).toArray := by
    rw [hzd, g2] at hfill
    simp only [Program.built, hi, hd, hz, hpl]
    simpa using hfill
  have := run_build w ty _ _ hbuilt
  simp only [execOp, ho, Sem.run_bind, this, Result.andThen_ok, den]
  rfl

theorem q_makeFunc {f : FuncId} {first caps : Array Operand} (ho : o.op = .makeFunc (.func f) first caps) (ht : RelT ρ m.length t a) (hf : first.isEmpty = true) (hc : caps.toList.all (fun x => !(ev t x).isAny) = true) :
    QOk P W ρ m a o true (.fn f (caps.toList.map (ev t))) := by
  intro _
  simp only [List.all_eq_true, Bool.not_eq_true'] at hc
  have hcaps : caps.map a.eval = (denL ρ (caps.toList.map (ev t))).toArray := by
    apply Array.ext'
    simp only [Array.toList_map, denL_map, List.map_map]
    exact List.map_congr_left fun x hx => (ht.ev x (hc x hx)).2
  refine ⟨_, fun _ => ⟨?_, rfl⟩, fun w hw => ?_⟩
  · simp only [SV.lt, ltL_all, List.all_eq_true, List.mem_map]
    rintro _ ⟨x, hx, rfl⟩
    exact (ht.ev x (hc x hx)).1
  · have : first = #[] := by simpa using hf
    subst this
    simp [execOp, ho, Instr.makeFunc, hcaps, den]

theorem q_index_str (hT : TOk P T) {ty : TypeId} {x i : Operand} {es : ByteArray} {ei : Int} {k : IntKind} (ho : o.op = .index ty x i) (ht : RelT ρ m.length t a) (hx : ev t x = .s es) (hi : ev t i = .i k ei) (hk : (T ty).known = true) (hkd : (T ty).kind = .str) :
    QOk P W ρ m a o (inRange ei (lenS es)) (.i .u8 (byteAt es ei)) := by
  intro he
  have h1 := (ht.ev x (by rw [hx]; rfl)).2
  have h2 := (ht.ev i (by rw [hi]; rfl)).2
  rw [hx] at h1; rw [hi] at h2
  simp only [den] at h1 h2
  obtain ⟨ti, d, z, hti, hd, hz, g1, g2, g3, g4, g5, g6, g7, g8, _⟩ := (hT.ty ty hk).ex
  have := g6 hkd; subst this
  obtain ⟨b1, b2⟩ := inRange_iff.1 he
  simp only [lenS] at b2
  refine ⟨_, fun _ => ⟨rfl, rfl⟩, fun w hw => ?_⟩
  have hlt : ei.toNat < es.size := by omega
  have hget : es[ei.toNat]? = some (es[ei.toNat]) := getElem?_pos es ei.toNat hlt
  simp [execOp, ho, h1, h2, Instr.index, asIntOf, run_underlying hd, b1, hget, den, byteAt]

theorem q_indexAddr (hT : TOk P T) {ty : TypeId} {x i : Operand} {ei : Int} {k : IntKind} {j : Nat} {c : C} {bt : TypeId} {own : Bool} (ho : o.op = .indexAddr ty x i) (ht : RelT ρ m.length t a) (hx : ev t x = .row j) (hi : ev t i = .i k ei)
    (hk : (T ty).known = true) (hkd : (T ty).kind = .slice) (hj : m[j]? = some (.row c bt own)) (hke : (T (T ty).elem).known = true) (hsz : (T (T ty).elem).size = c.sz) :
    QOk P W ρ m a o (inRange ei c.len) (.ep j ei c.sz 0) := by
  intro he
  have h0 := ht.ev x (by rw [hx]; rfl)
  rw [hx] at h0
  obtain ⟨h0, h1⟩ := h0
  have h2 := (ht.ev i (by rw [hi]; rfl)).2
  rw [hi] at h2
  simp only [den] at h1 h2
  obtain ⟨ti, d, z, hti, hd, hz, g1, g2, g3, g4, g5, g6, g7, g8, _⟩ := (hT.ty ty hk).ex
  have := g7 hkd; subst this
  obtain ⟨b1, b2⟩ := inRange_iff.1 he
  rw [C.len_n] at b2
  refine ⟨_, fun _ => ⟨by simpa [SV.lt] using h0, rfl⟩, fun w hw => ?_⟩
  obtain ⟨hs0, A, cap, hρ, hlen', hnone, _, _, _, hcell⟩ := RelM.row hw hj
  cases A with
  | none => have := hnone rfl; omega
  | some ad =>
    simp only [hρ, sliceVal] at h1
    have hb2 : (0 ≤ ei ∧ ei < (c.n : Int)) := by omega
    have hadd0 : ∀ ad : Addr, ad.add 0 = ad := fun ad => by simp [Addr.add]
    simp only [execOp, ho, h1, h2, Instr.indexAt, asIntOf, Sem.run_bind, Sem.run_pure, Result.andThen_ok, run_underlying hd, den, hρ, elemPtr, hadd0]
    rw [if_pos hb2]
    simp only [Sem.run_bind, (hT.ty _ hke).sizeOf, hsz, Sem.run_pure, Result.andThen_ok]

theorem q_len_str (hT : TOk P T) {c : Call} {x : Operand} {at_ : TypeId} {es : ByteArray} (ho : o.op = .call c) (hc : c.callee = .builtin .len) (hargs : c.args.toList = [x]) (hat : c.argTypes.toList = [at_]) (hk : (T at_).known = true) (hkd : (T at_).kind = .str)
    (ht : RelT ρ m.length t a) (hx : ev t x = .s es) : QOk P W ρ m a o true (.i .i64 (lenS es)) := by
  intro _
  have h1 := (ht.ev x (by rw [hx]; rfl)).2
  rw [hx] at h1
  simp only [den] at h1
  have ha : c.args = #[x] := by rw [← Array.toArray_toList (xs := c.args), hargs]
  have hb : c.argTypes = #[at_] := by rw [← Array.toArray_toList (xs := c.argTypes), hat]
  obtain ⟨ti, d, z, hti, hd, hz, g1, g2, g3, g4, g5, g6, g7, g8, _⟩ := (hT.ty at_ hk).ex
  have := g6 hkd; subst this
  refine ⟨_, fun _ => ⟨rfl, rfl⟩, fun w hw => ?_⟩
  simp [execOp, ho, resolve, hc, ha, hb, invoke, builtin, Builtin.len_, run_underlying hd, h1, den, lenS, goInt]
theorem q_len_row (hT : TOk P T) {c : Call} {x : Operand} {at_ : TypeId} {j : Nat} {cc : C} {bt : TypeId} {own : Bool} (ho : o.op = .call c) (hc : c.callee = .builtin .len) (hargs : c.args.toList = [x]) (hat : c.argTypes.toList = [at_]) (hk : (T at_).known = true) (hkd : (T at_).kind = .slice)
    (ht : RelT ρ m.length t a) (hx : ev t x = .row j) (hj : m[j]? = some (.row cc bt own)) : QOk P W ρ m a o true (.i .i64 cc.len) := by
  intro _
  have h1 := (ht.ev x (by rw [hx]; rfl)).2
  rw [hx] at h1
  simp only [den] at h1
  have ha : c.args = #[x] := by rw [← Array.toArray_toList (xs := c.args), hargs]
  have hb : c.argTypes = #[at_] := by rw [← Array.toArray_toList (xs := c.argTypes), hat]
  obtain ⟨ti, d, z, hti, hd, hz, g1, g2, g3, g4, g5, g6, g7, g8, _⟩ := (hT.ty at_ hk).ex
  have := g7 hkd; subst this
  refine ⟨_, fun _ => ⟨rfl, rfl⟩, fun w hw => ?_⟩
  obtain ⟨hs0, A, cap, hρ, _⟩ := RelM.row hw hj
  simp only [hρ, sliceVal] at h1
  simp only [execOp, ho, resolve, hc, ha, hb, invoke, builtin, Builtin.len_, den, goInt, Sem.run_bind, Sem.run_pure, Result.andThen_ok, List.map_toArray, List.map_cons, List.map_nil, h1, C.len_n]
  simp [run_underlying hd]
theorem q_len_nil (hT : TOk P T) {c : Call} {x : Operand} {at_ : TypeId} (ho : o.op = .call c) (hc : c.callee = .builtin .len) (hargs : c.args.toList = [x]) (hat : c.argTypes.toList = [at_]) (hk : (T at_).known = true) (hkd : (T at_).kind = .slice)
    (ht : RelT ρ m.length t a) (hx : ev t x = .v (.slice none 0 0)) : QOk P W ρ m a o true (.i .i64 0) := by
  intro _
  have h1 := (ht.ev x (by rw [hx]; rfl)).2
  rw [hx] at h1
  simp only [den] at h1
  have ha : c.args = #[x] := by rw [← Array.toArray_toList (xs := c.args), hargs]
  have hb : c.argTypes = #[at_] := by rw [← Array.toArray_toList (xs := c.argTypes), hat]
  obtain ⟨ti, d, z, hti, hd, hz, g1, g2, g3, g4, g5, g6, g7, g8, _⟩ := (hT.ty at_ hk).ex
  have := g7 hkd; subst this
  refine ⟨_, fun _ => ⟨rfl, rfl⟩, fun w hw => ?_⟩
  simp only [execOp, ho, resolve, hc, ha, hb, invoke, builtin, Builtin.len_, den, goInt, Sem.run_bind, Sem.run_pure, Result.andThen_ok, List.map_toArray, List.map_cons, List.map_nil, h1]
  simp [run_underlying hd]

theorem q_min {c : Call} {x y : Operand} {ex ey : Int} (ho : o.op = .call c) (hc : c.callee = .builtin .min) (hargs : c.args.toList = [x, y])
    (ht : RelT ρ m.length t a) (hx : ev t x = .i .i64 ex) (hy : ev t y = .i .i64 ey) : QOk P W ρ m a o true (.i .i64 (minI ex ey)) := by
  intro _
  have h1 := (ht.ev x (by rw [hx]; rfl)).2
  have h2 := (ht.ev y (by rw [hy]; rfl)).2
  rw [hx] at h1; rw [hy] at h2
  simp only [den] at h1 h2
  have ha : c.args = #[x, y] := by rw [← Array.toArray_toList (xs := c.args), hargs]
  refine ⟨_, fun _ => ⟨rfl, rfl⟩, fun w hw => ?_⟩
  simp [execOp, ho, resolve, hc, ha, invoke, builtin, Builtin.min_, Builtin.min2, h1, h2, den, minI]
theorem bnd_some {lo : Option Operand} {d el : Int} (h : bndE t lo d = some el) (ht : RelT ρ m.length t a) :
    (lo = none ∧ el = d) ∨ ∃ l k, lo = some l ∧ a.eval l = .int k el := by
  unfold bndE at h
  cases lo with
  | none => simp only [Option.some.injEq] at h; exact .inl ⟨rfl, h.symm⟩
  | some l =>
    simp only at h
    split at h
    · rename_i k e' hl
      injection h with h
      subst h
      have := (ht.ev l (by rw [hl]; rfl)).2
      rw [hl] at this
      exact .inr ⟨l, k, rfl, this⟩
    · cases h
theorem q_slice_str (hT : TOk P T) {ty : TypeId} {x : Operand} {lo hi : Option Operand} {es : ByteArray} {el eh : Int} (ho : o.op = .slice ty x lo hi none) (ht : RelT ρ m.length t a) (hk : (T ty).known = true) (hkd : (T ty).kind = .str) (hx : ev t x = .s es)
    (hlo : bndE t lo 0 = some el) (hhi : bndE t hi (lenS es) = some eh) : QOk P W ρ m a o (decide (0 ≤ el) && decide (el ≤ eh) && decide (eh ≤ lenS es)) (.s (subS es el eh)) := by
  intro he
  have h1 := (ht.ev x (by rw [hx]; rfl)).2
  rw [hx] at h1
  simp only [den] at h1
  obtain ⟨ti, d, z, hti, hd, hz, g1, g2, g3, g4, g5, g6, g7, g8, _⟩ := (hT.ty ty hk).ex
  have := g6 hkd; subst this
  simp only [Bool.and_eq_true, decide_eq_true_eq] at he
  obtain ⟨⟨b1, b2⟩, b3⟩ := he
  simp only [lenS] at b3
  refine ⟨_, fun _ => ⟨rfl, rfl⟩, fun w hw => ?_⟩
  have hel : ((eh.toNat : Nat) : Int) = eh := Int.toNat_of_nonneg (by omega)
  rcases bnd_some hlo ht with ⟨rfl, rfl⟩ | ⟨l, kl, rfl, hl⟩ <;> rcases bnd_some hhi ht with ⟨rfl, rfl⟩ | ⟨h, kh, rfl, hh⟩
  · simp [execOp, ho, h1, Instr.sliceAt, Instr.slice, run_underlying hd, Instr.sliceBounds, den, subS, lenS]
  · simp [execOp, ho, h1, hh, Instr.sliceAt, Instr.slice, run_underlying hd, Instr.sliceBounds, den, subS, lenS, run_sliceBound w kh eh es.size _ (by omega) b3]
  · have b2' : el ≤ es.size := by simpa [lenS] using b2
    simp [execOp, ho, h1, hl, Instr.sliceAt, Instr.slice, run_underlying hd, Instr.sliceBounds, den, subS, lenS, run_sliceBound w kl el es.size _ b1 b2']
  · simp [execOp, ho, h1, hl, hh, Instr.sliceAt, Instr.slice, run_underlying hd, Instr.sliceBounds, den, subS, lenS, run_sliceBound w kh eh es.size _ (by omega) b3, run_sliceBound w kl el eh.toNat _ b1 (by omega)]

theorem fold_bytes' : ∀ (l : List Int) (r : ByteArray), l.foldl (fun r n => r.push (UInt8.ofNat n.toNat)) r = ⟨r.data ++ (l.map fun n => UInt8.ofNat n.toNat).toArray⟩
  | [], r => by simp
  | b :: l, r => by
    simp only [List.foldl_cons]
    rw [fold_bytes' l]
    congr 1
    apply Array.ext'
    simp [ByteArray.push]
theorem bytes_fold (l : List Int) : l.foldl (fun r n => r.push (UInt8.ofNat n.toNat)) ByteArray.empty = bytesOf l := by
  rw [fold_bytes']
  simp [bytesOf]
theorem den_u8 (ρ : Nat → Value) : ∀ l : List Int, (C.ty .u8 l).den ρ = (List.map (fun b : Int => Value.int .u8 b) l)
  | [] => rfl
  | x :: r => by
    have := den_u8 ρ r
    simp only [C.den] at this ⊢
    rw [List.map_cons, ← this]
    rfl
theorem q_bytesToStr (hT : TOk P T) {src dst : TypeId} {x : Operand} {j : Nat} {l : List K.u8.T} {bt : TypeId} {own : Bool} (ho : o.op = .convert src dst x) (ht : RelT ρ m.length t a) (hx : ev t x = .row j) (hj : m[j]? = some (.row (.ty .u8 l) bt own))
    (k1 : (T src).known = true) (k2 : (T dst).known = true) (k3 : (T src).kind = .slice) (k4 : (T dst).kind = .str) (k5 : (T (T src).elem).known = true) (k6 : (T (T src).elem).kind = .int .u8) :
    QOk P W ρ m a o true (.s (bytesOf l)) := by
  intro _
  have h1 := (ht.ev x (by rw [hx]; rfl)).2
  rw [hx] at h1
  obtain ⟨_, d1, _, _, u1, _, _, _, _, _, _, _, g7, _⟩ := (hT.ty src k1).ex
  have := g7 k3; subst this
  obtain ⟨_, d2, _, _, u2, _, _, _, _, _, _, g6, _⟩ := (hT.ty dst k2).ex
  have := g6 k4; subst this
  obtain ⟨_, d3, _, _, u3, _, _, _, _, g4, _⟩ := (hT.ty _ k5).ex
  have := g4 _ k6; subst this
  refine ⟨_, fun _ => ⟨rfl, rfl⟩, fun w hw => ?_⟩
  obtain ⟨hs0, A, cap, hρ, hlen', hnone, _, _, _, hcell⟩ := RelM.row hw hj
  simp only [den, hρ, sliceVal] at h1
  have hden : (C.ty .u8 l).den ρ = (List.map (fun b : Int => Value.int .u8 b) l) := by
    exact den_u8 ρ l
  rw [hden] at hcell
  have hrun : (Conv.bytesToString (.slice A (C.ty K.u8 l).n cap)).run P w = .ok (.string (bytesOf l)) w := by
    cases A with
    | none =>
      have h0 := hnone rfl
      have : l = [] := List.eq_nil_of_length_eq_zero h0
      subst this
      simp [Conv.bytesToString, C.n, bytesOf]
      rfl
    | some ad =>
      have hload := run_loadCells_list (P := P) w ad (List.map (fun b : Int => Value.int .u8 b) l) (fun q u hu => hcell ad rfl q u hu)
      have := run_bytesToString (P := P) w ad (C.ty K.u8 l).n cap l (by
        have e : (List.map (fun b : Int => Value.int .u8 b) l).length = (C.ty K.u8 l).n := List.length_map _
        rw [e] at hload
        simpa using hload)
      rw [this]
      exact congrArg (fun s => Result.ok (Value.string s) w) (bytes_fold l)
  simp [execOp, ho, h1, convert, run_underlying u1, run_underlying u2, run_underlying u3, hrun, den]

/-- **EVERY QUIET OPERATION DOES WHAT THE EXECUTOR SAYS.** -/
theorem opq_ok (hT : TOk P T) (hlt : ∀ (j : Nat) (ob : Obj), m[j]? = some ob → ob.lt m.length = true) (ht : RelT ρ m.length t a) (h : opq T t m o.op = some (e, v)) : QOk P W ρ m a o e v := by
  cases hop : o.op with
  | move x => simp only [hop, opq, Option.some.injEq, Prod.mk.injEq] at h; obtain ⟨rfl, rfl⟩ := h; exact q_move (.inl hop) ht
  | assign x => simp only [hop, opq, Option.some.injEq, Prod.mk.injEq] at h; obtain ⟨rfl, rfl⟩ := h; exact q_move (.inr hop) ht
  | pick c x y =>
    simp only [hop, opq] at h
    split at h
    · rename_i hc; simp only [Option.some.injEq, Prod.mk.injEq] at h; obtain ⟨rfl, rfl⟩ := h; exact q_pick (b := true) hop ht hc
    · rename_i hc; simp only [Option.some.injEq, Prod.mk.injEq] at h; obtain ⟨rfl, rfl⟩ := h; exact q_pick (b := false) hop ht hc
    · cases h
  | load ty x =>
    simp only [hop, opq] at h
    split at h
    · rename_i j off hx
      split at h
      · rename_i cs bt own hj
        split at h
        · rename_i hk
          obtain ⟨l, hl, h⟩ := Option.bind_eq_some_iff.1 h
          obtain ⟨v', hv, h⟩ := Option.map_eq_some_iff.1 h
          simp only [Prod.mk.injEq] at h; obtain ⟨rfl, rfl⟩ := h
          exact q_load_ptr hT hop ht hx hj hk hl hv (hlt j _ hj)
        · cases h
      · cases h
    · rename_i j n sz off hx
      split at h
      · rename_i cs rsz rn bt own hj
        split at h
        · rename_i hk
          simp only [Bool.and_eq_true, decide_eq_true_eq, beq_iff_eq] at hk
          obtain ⟨l, hl, h⟩ := Option.bind_eq_some_iff.1 h
          obtain ⟨v', hv, h⟩ := Option.map_eq_some_iff.1 h
          simp only [Prod.mk.injEq] at h; obtain ⟨rfl, rfl⟩ := h
          have := hlt j _ hj
          simp only [Obj.lt, C.lt] at this
          obtain ⟨⟨hk1, rfl⟩, hk2⟩ := hk
          exact q_load_ep hT hop ht hx hj hk1 hl hv hk2 this
        · cases h
      · cases h
    · cases h
  | fieldAddr ty x f =>
    simp only [hop, opq] at h
    split at h
    · rename_i fo ft hf hkd
      split at h
      · rename_i hk
        simp only [Bool.and_eq_true, decide_eq_true_eq] at hk
        obtain ⟨⟨hk, hkf⟩, hs⟩ := hk
        split at h
        · rename_i j off hx
          split at h
          · rename_i hj; simp only [Option.some.injEq, Prod.mk.injEq] at h; obtain ⟨rfl, rfl⟩ := h; exact q_fieldAddr_ptr hT hop ht hf hkd hx hj hk hkf hs
          · cases h
        · rename_i j e' sz off hx
          split at h
          · rename_i hj; simp only [Option.some.injEq, Prod.mk.injEq] at h; obtain ⟨rfl, rfl⟩ := h; exact q_fieldAddr_ep hT hop ht hf hkd hx hj hk hkf hs
          · cases h
        · cases h
      · cases h
    · cases h
  | field ty x f =>
    simp only [hop, opq] at h
    split at h
    · rename_i fo ft l hf hkd hx
      split at h
      · rename_i hk
        simp only [Bool.and_eq_true] at hk
        obtain ⟨c, hc, h⟩ := Option.bind_eq_some_iff.1 h
        obtain ⟨v', hv, h⟩ := Option.map_eq_some_iff.1 h
        simp only [Prod.mk.injEq] at h; obtain ⟨rfl, rfl⟩ := h
        exact q_field hT hop ht hf hkd hx hk.1 hk.2 hc hv
      · cases h
    · cases h
  | build ty ps =>
    simp only [hop, opq] at h
    split at h
    · rename_i hkd
      split at h
      · rename_i hk
        simp only [Bool.and_eq_true] at hk
        obtain ⟨cs, hcs, h⟩ := Option.map_eq_some_iff.1 h
        simp only [Prod.mk.injEq] at h; obtain ⟨rfl, rfl⟩ := h
        exact q_build hT hop ht hkd hk.1 hk.2 hcs
      · cases h
    · cases h
  | binOp bo ty x y yt =>
    simp only [hop, opq] at h
    split at h
    · rename_i k ex k' ey hx hy
      split at h
      · rename_i hb
        simp only [Option.some.injEq, Prod.mk.injEq] at h
        obtain ⟨rfl, rfl⟩ := h
        exact q_shift hop ht hx hy (by cases bo <;> simp_all [isShift])
      · rename_i hb
        have hn : bo ≠ .shl ∧ bo ≠ .shr := by cases bo <;> simp_all [isShift]
        split at h
        · rename_i hkk
          subst hkk
          split at h
          · rename_i hc
            simp only [Option.some.injEq, Prod.mk.injEq] at h
            obtain ⟨rfl, rfl⟩ := h
            have := q_binop_int (P := P) (W := W) (m := m) (e := true) hop ht hx hy hn (fun hq => by rcases hq with rfl | rfl <;> cases hc)
            rwa [if_pos hc] at this
          · rename_i hc
            split at h
            · rename_i hq
              simp only [Option.some.injEq, Prod.mk.injEq] at h
              obtain ⟨rfl, rfl⟩ := h
              have := q_binop_int (P := P) (W := W) (m := m) (e := !decide (ey = 0)) hop ht hx hy hn (fun _ he => by simpa using he)
              rwa [if_neg hc] at this
            · rename_i hq
              split at h
              · rename_i hring
                simp only [Bool.and_eq_true, decide_eq_true_eq] at hring
                obtain ⟨hr, rfl⟩ := hring
                simp only [Option.some.injEq, Prod.mk.injEq] at h
                obtain ⟨rfl, rfl⟩ := h
                intro he
                have := q_binop_int (P := P) (W := W) (m := m) (e := true) hop ht hx hy hn (fun hq' => by rcases hq' with rfl | rfl <;> simp [isDiv] at hq) rfl
                rw [if_neg hc, iop_ok hr he] at this
                exact this
              simp only [Option.some.injEq, Prod.mk.injEq] at h
              obtain ⟨rfl, rfl⟩ := h
              have := q_binop_int (P := P) (W := W) (m := m) (e := true) hop ht hx hy hn (fun hq' => by rcases hq' with rfl | rfl <;> simp [isDiv] at hq)
              rwa [if_neg hc] at this
        · cases h
    · rename_i ex ey hx hy
      split at h
      · rename_i hkd
        split at h
        · rename_i hk
          split at h
          · rename_i hb
            have : bo = .eql := by cases bo <;> simp_all [isEql]
            subst this
            simp only [Option.some.injEq, Prod.mk.injEq] at h
            obtain ⟨rfl, rfl⟩ := h
            exact q_binop_bool hT hop ht hx hy hk hkd (.inl rfl)
          · split at h
            · rename_i hb
              have : bo = .neq := by cases bo <;> simp_all [isNeq]
              subst this
              simp only [Option.some.injEq, Prod.mk.injEq] at h
              obtain ⟨rfl, rfl⟩ := h
              exact q_binop_bool hT hop ht hx hy hk hkd (.inr rfl)
            · cases h
        · cases h
      · cases h
    · rename_i la lb hx hy
      split at h
      · rename_i hk
        simp only [Bool.and_eq_true] at hk
        split at h
        · rename_i hb
          have : bo = .eql := by cases bo <;> simp_all [isEql]
          subst this
          obtain ⟨ee, hee, h⟩ := Option.map_eq_some_iff.1 h
          simp only [Prod.mk.injEq] at h
          obtain ⟨rfl, rfl⟩ := h
          exact q_binop_agg hT hop ht hx hy hk.1.1 hk.1.2 hk.2 hee (.inl rfl)
        · split at h
          · rename_i hb
            have : bo = .neq := by cases bo <;> simp_all [isNeq]
            subst this
            obtain ⟨ee, hee, h⟩ := Option.map_eq_some_iff.1 h
            simp only [Prod.mk.injEq] at h
            obtain ⟨rfl, rfl⟩ := h
            exact q_binop_agg hT hop ht hx hy hk.1.1 hk.1.2 hk.2 hee (.inr rfl)
          · cases h
      · cases h
    · rename_i ex ey hx hy
      split at h
      · rename_i hc
        simp only [Option.some.injEq, Prod.mk.injEq] at h
        obtain ⟨rfl, rfl⟩ := h
        exact q_binop_str hop ht hx hy hc
      · split at h
        · rename_i hb
          have : bo = .add := by cases bo <;> simp_all [isAdd]
          subst this
          simp only [Option.some.injEq, Prod.mk.injEq] at h
          obtain ⟨rfl, rfl⟩ := h
          exact q_binop_cat hop ht hx hy
        · cases h
    · cases h
  | unOp uo ty x =>
    cases uo <;> simp only [hop, opq] at h <;> try (cases h; done)
    split at h
    · rename_i ex hx; simp only [Option.some.injEq, Prod.mk.injEq] at h; obtain ⟨rfl, rfl⟩ := h; exact q_not hop ht hx
    · cases h
  | convert src dst x =>
    simp only [hop, opq] at h
    split at h
    · rename_i k k' ex h1 h2 h3 h4; simp only [Option.some.injEq, Prod.mk.injEq] at h; obtain ⟨rfl, rfl⟩ := h; exact q_convert hT hop ht h4 h1 h2 h3
    · rename_i j h1 h2 h3 h4
      split at h
      · rename_i l bt own h5 h6 h7 h8; simp only [Option.some.injEq, Prod.mk.injEq] at h; obtain ⟨rfl, rfl⟩ := h; exact q_bytesToStr hT hop ht h4 h8 h1 h2 h5 h3 h6 h7
      · cases h
    · cases h
  | extract x i =>
    simp only [hop, opq] at h
    split at h
    · rename_i l hx
      split at h
      · rename_i v' hi
        split at h
        · cases h
        · rename_i hv; simp only [Option.some.injEq, Prod.mk.injEq] at h; obtain ⟨rfl, rfl⟩ := h; exact q_extract hop ht hx hi (by simpa using hv)
      · cases h
    · cases h
  | nilCheck x =>
    simp only [hop, opq] at h
    split at h
    · rename_i j off hx
      split at h
      · rename_i hj; simp only [Option.some.injEq, Prod.mk.injEq] at h; obtain ⟨rfl, rfl⟩ := h; exact q_nilCheck hop ht hx hj
      · cases h
    · cases h
  | makeFunc fn first caps =>
    cases fn <;> simp only [hop, opq] at h <;> try (cases h; done)
    split at h
    · rename_i hc
      simp only [Bool.and_eq_true] at hc
      simp only [Option.some.injEq, Prod.mk.injEq] at h; obtain ⟨rfl, rfl⟩ := h; exact q_makeFunc hop ht hc.1 hc.2
    · cases h
  | index ty x i =>
    simp only [hop, opq] at h
    split at h
    · rename_i es k ei h1 h2 h3 h4; simp only [Option.some.injEq, Prod.mk.injEq] at h; obtain ⟨rfl, rfl⟩ := h; exact q_index_str hT hop ht h3 h4 h1 h2
    · cases h
  | indexAddr ty x i =>
    simp only [hop, opq] at h
    split at h
    · rename_i j k ei h1 h2 h3 h4
      split at h
      · rename_i hj
        split at h
        · rename_i hk
          simp only [Bool.and_eq_true, beq_iff_eq] at hk
          simp only [Option.some.injEq, Prod.mk.injEq] at h; obtain ⟨rfl, rfl⟩ := h; exact q_indexAddr hT hop ht h3 h4 h1 h2 hj hk.1 hk.2
        · cases h
      · cases h
    · cases h
  | slice ty x lo hi mx =>
    cases mx with
    | some _ => simp only [hop, opq] at h; cases h
    | none =>
      simp only [hop, opq] at h
      split at h
      · rename_i es h1 h2 h3
        split at h
        · rename_i el eh hl hh
          simp only [Option.some.injEq, Prod.mk.injEq] at h
          obtain ⟨rfl, rfl⟩ := h
          exact q_slice_str hT hop ht h1 h2 h3 hl hh
        · cases h
      · cases h
  | call c =>
    simp only [hop, opq] at h
    split at h
    · rename_i x at_ hc hargs hat
      split at h
      · rename_i es h1 h2 h3; simp only [Option.some.injEq, Prod.mk.injEq] at h; obtain ⟨rfl, rfl⟩ := h; exact q_len_str hT hop hc hargs hat h1 h2 ht h3
      · rename_i j h1 h2 h3
        split at h
        · rename_i hj; simp only [Option.some.injEq, Prod.mk.injEq] at h; obtain ⟨rfl, rfl⟩ := h; exact q_len_row hT hop hc hargs hat h1 h2 ht h3 hj
        · cases h
      · rename_i h1 h2 h3; simp only [Option.some.injEq, Prod.mk.injEq] at h; obtain ⟨rfl, rfl⟩ := h; exact q_len_nil hT hop hc hargs hat h1 h2 ht h3
      · cases h
    · rename_i x y hc hargs
      split at h
      · rename_i h1 h2; simp only [Option.some.injEq, Prod.mk.injEq] at h; obtain ⟨rfl, rfl⟩ := h; exact q_min hop hc hargs ht h1 h2
      · cases h
    · cases h
  | _ => simp only [hop, opq] at h; cases h
end
theorem vk_nil {xs : List Value} (h : vkinds [] xs = true) : xs = [] := by cases xs <;> simp_all [vkinds]
theorem vk_bool {b : Bool} {r xs : List Value} (h : vkinds (.bool b :: r) xs = true) : ∃ x r', xs = .bool x :: r' ∧ vkinds r r' = true := by
  cases xs with
  | nil => simp [vkinds] at h
  | cons v r' => cases v <;> simp [vkinds] at h; exact ⟨_, r', rfl, h⟩
theorem vk_int {k : IntKind} {n : Int} {r xs : List Value} (h : vkinds (.int k n :: r) xs = true) : ∃ x r', xs = .int k x :: r' ∧ vkinds r r' = true := by
  cases xs with
  | nil => simp [vkinds] at h
  | cons v r' => cases v <;> simp [vkinds] at h; obtain ⟨rfl, h⟩ := h; exact ⟨_, r', rfl, h⟩
theorem vk_str {s : ByteArray} {r xs : List Value} (h : vkinds (.string s :: r) xs = true) : ∃ x r', xs = .string x :: r' ∧ vkinds r r' = true := by
  cases xs with
  | nil => simp [vkinds] at h
  | cons v r' => cases v <;> simp [vkinds] at h; exact ⟨_, r', rfl, h⟩
end Go.Ma
