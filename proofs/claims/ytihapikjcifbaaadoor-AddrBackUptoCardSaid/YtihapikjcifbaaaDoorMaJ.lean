/-
  THE MACHINE, part J: structs of bools, integers and strings, nested ones too, are compared cell by cell.
-/
import Derived.Test.YtihapikjcifbaaaDoorMaH
import Derived.Laws.StructEq
namespace Go.Ma
open Go Go.RowKit

def fieldsOk (rec : TypeId → List Value → Bool) (T : Nat → TI) : List (Nat × TypeId) → Nat → List Value → Bool
  | [], _, z => z.isEmpty
  | (o, ft) :: r, off, z => (o == off) && decide ((T ft).size ≤ z.length) && rec ft (z.take (T ft).size) && fieldsOk rec T r (off + (T ft).size) (z.drop (T ft).size)
def shapeOk (P : Program) (T : Nat → TI) : Nat → TypeId → List Value → Bool
  | 0, _, _ => false
  | d + 1, t, z => (T t).known && match (T t).kind, z with
    | .bool, [.bool _] => !(T t).agg
    | .int _, [.int _ _] => !(T t).agg
    | .str, [.string _] => !(T t).agg
    | .struct, z => (T t).agg && !P.stoodInHeld t && (P.fieldsOf t).toList.all (fun f => f.name != "_") && fieldsOk (shapeOk P T d) T (T t).fields 0 z
    | _, _ => false
def valL (ti : TI) (xs : List Value) : Value := if ti.agg then .agg xs.toArray else xs.headD Go.undef

theorem vkinds_len : ∀ (z xs : List Value), vkinds z xs = true → xs.length = z.length
  | [], xs, h => by rw [vk_nil h]
  | v :: r, [], h => by cases v <;> simp [vkinds] at h
  | v :: r, x :: r', h => by
    have h' : vkinds r r' = true := by cases v <;> cases x <;> simp_all [vkinds]
    simp [vkinds_len r r' h']
theorem vkinds_take : ∀ {z xs : List Value} (n : Nat), vkinds z xs = true → vkinds (z.take n) (xs.take n) = true ∧ vkinds (z.drop n) (xs.drop n) = true
  | _, _, 0, h => ⟨by simp [vkinds], by simpa using h⟩
  | [], xs, n + 1, h => by rw [vk_nil h]; exact ⟨by simp [vkinds], by simp [vkinds]⟩
  | v :: r, xs, n + 1, h => by
    cases xs with
    | nil => cases v <;> simp [vkinds] at h
    | cons x r' =>
      cases v <;> cases x <;> simp only [vkinds, Bool.false_eq_true, Bool.and_eq_true] at h
      · have := vkinds_take n h
        exact ⟨by simpa [vkinds] using this.1, by simpa using this.2⟩
      · have := vkinds_take n h.2
        exact ⟨by simpa [vkinds, h.1] using this.1, by simpa using this.2⟩
      · have := vkinds_take n h
        exact ⟨by simpa [vkinds] using this.1, by simpa using this.2⟩
theorem veqL_take : ∀ (n : Nat) {z xs ys : List Value}, vkinds z xs = true → vkinds z ys = true → veqL xs ys = (veqL (xs.take n) (ys.take n) && veqL (xs.drop n) (ys.drop n))
  | 0, _, _, _, _, _ => by simp [veqL]
  | n + 1, [], xs, ys, h, h' => by rw [vk_nil h, vk_nil h']; rfl
  | n + 1, v :: r, xs, ys, h, h' => by
    cases xs with
    | nil => cases v <;> simp [vkinds] at h
    | cons x rx =>
      cases ys with
      | nil => cases v <;> simp [vkinds] at h'
      | cons y ry =>
        cases v <;> cases x <;> simp only [vkinds, Bool.false_eq_true, Bool.and_eq_true] at h <;> cases y <;> simp only [vkinds, Bool.false_eq_true, Bool.and_eq_true] at h'
        · simp [veqL, veqL_take n h h', Bool.and_assoc]
        · simp [veqL, veqL_take n h.2 h'.2, Bool.and_assoc]
        · simp [veqL, veqL_take n h h', Bool.and_assoc]

section
variable {P : Program} {T : Nat → TI} (hT : ∀ t, (T t).known = true → TyFact P t (T t))
include hT
theorem run_partL {ft : TypeId} (hk : (T ft).known = true) (XS : List Value) (off : Nat) (h1 : (T ft).agg = false → ∃ v, ((XS.drop off).take (T ft).size) = [v] ∧ (T ft).size = 1) (w : World) :
    (part ft XS.toArray off).run P w = .ok (valL (T ft) ((XS.drop off).take (T ft).size)) w := by
  simp only [part, Sem.run_bind, (hT ft hk).isAgg, Result.andThen_ok, valL]
  cases hagg : (T ft).agg
  · obtain ⟨v, hv, hs⟩ := h1 hagg
    simp only [Bool.false_eq_true, if_false, hv, List.headD_cons]
    rw [hs] at hv
    have : XS[off]? = some v := by
      have := congrArg (fun l => l[0]?) hv
      simpa using this
    simp [this]
  · simp only [if_true, Sem.run_bind, (hT ft hk).sizeOf, Result.andThen_ok, Sem.run_pure]
    congr 2
    apply Array.ext'
    simp [Array.toList_extract, List.extract_eq_drop_take']
theorem eqFields_ok {d k : Nat} (rec : ∀ t z, shapeOk P T d t z = true → ∀ (xs ys : List Value) (w : World), vkinds z xs = true → vkinds z ys = true → (Op.equalIn (d + k) t (valL (T t) xs) (valL (T t) ys)).run P w = .ok (veqL xs ys) w)
    (XS YS : List Value) : ∀ (fs : List Field) (off : Nat) (z : List Value) (w : World), fs.all (fun f => f.name != "_") = true → fieldsOk (shapeOk P T d) T (fs.map fun f => (f.offset, f.type)) off z = true →
      vkinds z (XS.drop off) = true → vkinds z (YS.drop off) = true → (Op.eqFields (d + k) XS.toArray YS.toArray fs).run P w = .ok (veqL (XS.drop off) (YS.drop off)) w
  | [], off, z, w, _, hf, hx, hy => by
    simp only [List.map_nil, fieldsOk, List.isEmpty_iff] at hf
    subst hf
    rw [vk_nil hx, vk_nil hy]
    simp [Op.eqFields, veqL]
  | f :: r, off, z, w, hn, hf, hx, hy => by
    simp only [List.map_cons, fieldsOk, Bool.and_eq_true, beq_iff_eq, decide_eq_true_eq] at hf
    obtain ⟨⟨⟨rfl, hsz⟩, hsh⟩, hrest⟩ := hf
    simp only [List.all_cons, Bool.and_eq_true, bne_iff_ne, ne_eq] at hn
    have hk : (T f.type).known = true := by
      cases d with
      | zero => simp [shapeOk] at hsh
      | succ d => simp only [shapeOk, Bool.and_eq_true] at hsh; exact hsh.1
    obtain ⟨x1, x2⟩ := vkinds_take (T f.type).size hx
    obtain ⟨y1, y2⟩ := vkinds_take (T f.type).size hy
    have one : (T f.type).agg = false → (z.take (T f.type).size).length = 1 := by
      intro ha
      cases d with
      | zero => simp [shapeOk] at hsh
      | succ d =>
        simp only [shapeOk, Bool.and_eq_true] at hsh
        have h2 := hsh.2
        split at h2
        · rename_i h; rw [h]; rfl
        · rename_i h; rw [h]; rfl
        · rename_i h; rw [h]; rfl
        · simp [ha] at h2
        · cases h2
    have single : ∀ {l : List Value}, vkinds (z.take (T f.type).size) l = true → (T f.type).agg = false → ∃ v, l = [v] ∧ (T f.type).size = 1 := by
      intro l hl ha
      have h1 := vkinds_len _ _ hl
      have h2 := one ha
      rw [h2] at h1
      match l, h1 with
      | [v], _ => exact ⟨v, rfl, by rw [List.length_take] at h2; omega⟩
    have px := run_partL hT hk XS f.offset (single x1) w
    have py := run_partL hT hk YS f.offset (single y1) w
    have hr := rec f.type _ hsh _ _ w x1 y1
    have ih := eqFields_ok rec XS YS r (f.offset + (T f.type).size) _ w hn.2 hrest (by rw [← List.drop_drop]; exact x2) (by rw [← List.drop_drop]; exact y2)
    rw [← List.drop_drop, ← List.drop_drop] at ih
    simp only [Op.eqFields, if_pos hn.1, Sem.run_bind, px, py, hr, Result.andThen_ok]
    rw [veqL_take (T f.type).size hx hy]
    cases hv : veqL (List.take (T f.type).size (List.drop f.offset XS)) (List.take (T f.type).size (List.drop f.offset YS))
    · simp
    · simpa using ih
theorem eqIn_ok : ∀ (d k : Nat) (t : TypeId) (z : List Value), shapeOk P T d t z = true → ∀ (xs ys : List Value) (w : World), vkinds z xs = true → vkinds z ys = true →
    (Op.equalIn (d + k) t (valL (T t) xs) (valL (T t) ys)).run P w = .ok (veqL xs ys) w
  | 0, _, _, _, h, _, _, _, _, _ => by simp [shapeOk] at h
  | d + 1, k, t, z, h, xs, ys, w, hx, hy => by
    simp only [shapeOk, Bool.and_eq_true] at h
    obtain ⟨hk, h⟩ := h
    obtain ⟨ti, ds, z0, hti, hd, hz, g1, g2, g3, g4, g5, g6, g7, g8, _⟩ := (hT t hk).ex
    have e : d + 1 + k = (d + k) + 1 := by omega
    rw [e]
    split at h
    · rename_i hkd
      have := g5 hkd; subst this
      obtain ⟨a, r, rfl, hr⟩ := vk_bool hx
      obtain ⟨b, r', rfl, hr'⟩ := vk_bool hy
      rw [vk_nil hr, vk_nil hr']
      have ha : (T t).agg = false := by simpa using h
      simp only [valL, ha, Bool.false_eq_true, if_false, List.headD_cons]
      rw [run_equalIn_bool' _ _ _ _ _ hd]
      simp [veqL]
    · rename_i k0 _ _ hkd
      have := g4 _ hkd; subst this
      obtain ⟨a, r, rfl, hr⟩ := vk_int hx
      obtain ⟨b, r', rfl, hr'⟩ := vk_int hy
      rw [vk_nil hr, vk_nil hr']
      have ha : (T t).agg = false := by simpa using h
      simp only [valL, ha, Bool.false_eq_true, if_false, List.headD_cons]
      rw [run_equalIn_int _ _ _ _ _ _ _ hd]
      simp [veqL]
    · rename_i hkd
      have := g6 hkd; subst this
      obtain ⟨a, r, rfl, hr⟩ := vk_str hx
      obtain ⟨b, r', rfl, hr'⟩ := vk_str hy
      rw [vk_nil hr, vk_nil hr']
      have ha : (T t).agg = false := by simpa using h
      simp only [valL, ha, Bool.false_eq_true, if_false, List.headD_cons]
      rw [run_equalIn_string _ _ _ _ _ hd]
      simp [veqL]
    · rename_i hkd
      simp only [Bool.and_eq_true, Bool.not_eq_true'] at h
      obtain ⟨⟨⟨ha, hst⟩, hnm⟩, hf⟩ := h
      obtain ⟨fs, rfl, hfs⟩ := g8 hkd
      have hfo : P.fieldsOf t = fs := by simp [Program.fieldsOf, hd]
      simp only [valL, ha, if_true]
      rw [run_equalIn_struct _ _ _ _ _ (by rw [hfo]; exact hd) hst, hfo]
      rw [hfo] at hnm
      rw [hfs] at hf
      have := eqFields_ok hT (d := d) (k := k) (fun t z h => eqIn_ok d k t z h) xs ys fs.toList 0 _ w hnm hf (by simpa using hx) (by simpa using hy)
      simpa using this
    · cases h
/-- A struct's '==' and '!='. -/
theorem structEq (t : TypeId) (z : List Value) (h : shapeOk P T 8 t z = true) (hg : P.eqGuardType P.depth t = false) (ha : (T t).agg = true) : StructEq P t z := by
  intro xs ys x y w hx hy
  have h1 : (Op.equal t (.agg xs.toArray) (.agg ys.toArray)).run P w = .ok (veqL xs ys) w := by
    have := eqIn_ok hT 8 9992 t z h xs ys w hx hy
    simp only [valL, ha, if_true] at this
    exact this
  constructor
  · simp [eqGuard, binOp, hg, h1]
  · simp [eqGuard, binOp, hg, h1]
end
end Go.Ma
