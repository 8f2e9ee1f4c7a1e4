/-
  Parts: MaJ Pa Pb Ra Pc MaW Ge Pm Rb Rc Rd Pf Po Ca Ce Re Pw La Pv Lb Lc Ld Le Lg Lh Za Zb Zc Zd Ze Li Lo Cf Ph Pi Pj Ha Pk Cb Cd Lm Pd Pe Pg Sa Cc Sb Sc Sd Se Sf Sg Sh Si.
-/
import Derived.Laws.StructEq
import Derived.IntWalk
import Derived.Lib.IndexMore
import Derived.Lib.IndexLaws
import Derived.Test.YthoipikkaelohaaGreatDoorZp2
set_option linter.unusedVariables false
set_option linter.unusedSimpArgs false
namespace Go.Ma
open Go Go.RowKit
def fieldsOk (rec : TypeId → List Value → Bool) (T : Nat → TI) : List (Nat × TypeId) → Nat → List Value → Bool
 | [], _, z => z.isEmpty
 | (o, ft) :: r, off, z => (o == off) && decide ((T ft).size ≤ z.length) && rec ft (z.take (T ft).size) && fieldsOk rec T r (off + (T ft).size) (z.drop (T ft).size)
def shapeOk (P : Program) (T : Nat → TI) : Nat → TypeId → List Value → Bool
 | 0, _, _ => false
 | d + 1, t, z => (T t).known && match (T t).kind, z with
  | .bool, [.bool _] => !(T t).agg
  | .int _, [.int _ _] => !(T t).agg
  | .str, [.string _] => !(T t).agg
  | .struct, z => (T t).agg && !P.stoodInHeld t && (P.fieldsOf t).toList.all (fun f => f.name != "_") && fieldsOk (shapeOk P T d) T (T t).fields 0 z
  | _, _ => false
def valL (ti : TI) (xs : List Value) : Value := if ti.agg then .agg xs.toArray else xs.headD Go.undef
theorem vkinds_len : ∀ (z xs : List Value), vkinds z xs = true → xs.length = z.length
 | [], xs, h => by rw [vk_nil h]
 | v :: r, [], h => by cases v <;> simp [vkinds] at h
 | v :: r, x :: r', h => by
  have h' : vkinds r r' = true := by cases v <;> cases x <;> simp_all [vkinds]
  simp [vkinds_len r r' h']
theorem vkinds_take : ∀ {z xs : List Value} (n : Nat), vkinds z xs = true → vkinds (z.take n) (xs.take n) = true ∧ vkinds (z.drop n) (xs.drop n) = true
 | _, _, 0, h => ⟨by simp [vkinds], by simpa using h⟩
 | [], xs, n + 1, h => by rw [vk_nil h]; exact ⟨by simp [vkinds], by simp [vkinds]⟩
 | v :: r, xs, n + 1, h => by
  cases xs with
  | nil => cases v <;> simp [vkinds] at h
  | cons x r' =>
   cases v <;> cases x <;> simp only [vkinds, Bool.false_eq_true, Bool.and_eq_true] at h
   ·have := vkinds_take n h
    exact ⟨by simpa [vkinds] using this.1, by simpa using this.2⟩
   ·have := vkinds_take n h.2
    exact ⟨by simpa [vkinds, h.1] using this.1, by simpa using this.2⟩
   ·have := vkinds_take n h
    exact ⟨by simpa [vkinds] using this.1, by simpa using this.2⟩
theorem veqL_take : ∀ (n : Nat) {z xs ys : List Value}, vkinds z xs = true → vkinds z ys = true → veqL xs ys = (veqL (xs.take n) (ys.take n) && veqL (xs.drop n) (ys.drop n))
 | 0, _, _, _, _, _ => by simp [veqL]
 | n + 1, [], xs, ys, h, h' => by rw [vk_nil h, vk_nil h']; rfl
 | n + 1, v :: r, xs, ys, h, h' => by
  cases xs with
  | nil => cases v <;> simp [vkinds] at h
  | cons x rx =>
   cases ys with
   | nil => cases v <;> simp [vkinds] at h'
   | cons y ry =>
    cases v <;> cases x <;> simp only [vkinds, Bool.false_eq_true, Bool.and_eq_true] at h <;> cases y <;> simp only [vkinds, Bool.false_eq_true, Bool.and_eq_true] at h'
    ·simp [veqL, veqL_take n h h', Bool.and_assoc]
    ·simp [veqL, veqL_take n h.2 h'.2, Bool.and_assoc]
    ·simp [veqL, veqL_take n h h', Bool.and_assoc]
section
variable {P : Program} {T : Nat → TI} (hT : ∀ t, (T t).known = true → TyFact P t (T t))
include hT
theorem run_partL {ft : TypeId} (hk : (T ft).known = true) (XS : List Value) (off : Nat) (h1 : (T ft).agg = false → ∃ v, ((XS.drop off).take (T ft).size) = [v] ∧ (T ft).size = 1) (w : World) :
  (part ft XS.toArray off).run P w = .ok (valL (T ft) ((XS.drop off).take (T ft).size)) w := by
 simp only [part, Sem.run_bind, (hT ft hk).isAgg, Result.andThen_ok, valL]
 cases hagg : (T ft).agg
 ·obtain ⟨v, hv, hs⟩ := h1 hagg
  simp only [Bool.false_eq_true, if_false, hv, List.headD_cons]
  rw [hs] at hv
  have : XS[off]? = some v := by
   have := congrArg (fun l => l[0]?) hv
   simpa using this
  simp [this]
 ·simp only [if_true, Sem.run_bind, (hT ft hk).sizeOf, Result.andThen_ok, Sem.run_pure]
  congr 2
  apply Array.ext'
  simp [Array.toList_extract, List.extract_eq_drop_take']
theorem eqFields_ok {d k : Nat} (rec : ∀ t z, shapeOk P T d t z = true → ∀ (xs ys : List Value) (w : World), vkinds z xs = true → vkinds z ys = true → (Op.equalIn (d + k) t (valL (T t) xs) (valL (T t) ys)).run P w = .ok (veqL xs ys) w)
  (XS YS : List Value) : ∀ (fs : List Field) (off : Nat) (z : List Value) (w : World), fs.all (fun f => f.name != "_") = true → fieldsOk (shapeOk P T d) T (fs.map fun f => (f.offset, f.type)) off z = true →
   vkinds z (XS.drop off) = true → vkinds z (YS.drop off) = true → (Op.eqFields (d + k) XS.toArray YS.toArray fs).run P w = .ok (veqL (XS.drop off) (YS.drop off)) w
 | [], off, z, w, _, hf, hx, hy => by
  simp only [List.map_nil, fieldsOk, List.isEmpty_iff] at hf
  subst hf
  rw [vk_nil hx, vk_nil hy]
  simp [Op.eqFields, veqL]
 | f :: r, off, z, w, hn, hf, hx, hy => by
  simp only [List.map_cons, fieldsOk, Bool.and_eq_true, beq_iff_eq, decide_eq_true_eq] at hf
  obtain ⟨⟨⟨rfl, hsz⟩, hsh⟩, hrest⟩ := hf
  simp only [List.all_cons, Bool.and_eq_true, bne_iff_ne, ne_eq] at hn
  have hk : (T f.type).known = true := by
   cases d with
   | zero => simp [shapeOk] at hsh
   | succ d => simp only [shapeOk, Bool.and_eq_true] at hsh; exact hsh.1
  obtain ⟨x1, x2⟩ := vkinds_take (T f.type).size hx
  obtain ⟨y1, y2⟩ := vkinds_take (T f.type).size hy
  have one : (T f.type).agg = false → (z.take (T f.type).size).length = 1 := by
   intro ha
   cases d with
   | zero => simp [shapeOk] at hsh
   | succ d =>
    simp only [shapeOk, Bool.and_eq_true] at hsh
    have h2 := hsh.2
    split at h2
    ·rename_i h; rw [h]; rfl
    ·rename_i h; rw [h]; rfl
    ·rename_i h; rw [h]; rfl
    ·simp [ha] at h2
    ·cases h2
  have single : ∀ {l : List Value}, vkinds (z.take (T f.type).size) l = true → (T f.type).agg = false → ∃ v, l = [v] ∧ (T f.type).size = 1 := by
   intro l hl ha
   have h1 := vkinds_len _ _ hl
   have h2 := one ha
   rw [h2] at h1
   match l, h1 with
   | [v], _ => exact ⟨v, rfl, by rw [List.length_take] at h2; omega⟩
  have px := run_partL hT hk XS f.offset (single x1) w
  have py := run_partL hT hk YS f.offset (single y1) w
  have hr := rec f.type _ hsh _ _ w x1 y1
  have ih := eqFields_ok rec XS YS r (f.offset + (T f.type).size) _ w hn.2 hrest (by rw [← List.drop_drop]; exact x2) (by rw [← List.drop_drop]; exact y2)
  rw [← List.drop_drop, ← List.drop_drop] at ih
  simp only [Op.eqFields, if_pos hn.1, Sem.run_bind, px, py, hr, Result.andThen_ok]
  rw [veqL_take (T f.type).size hx hy]
  cases hv : veqL (List.take (T f.type).size (List.drop f.offset XS)) (List.take (T f.type).size (List.drop f.offset YS))
  ·simp
  ·simpa using ih
theorem eqIn_ok : ∀ (d k : Nat) (t : TypeId) (z : List Value), shapeOk P T d t z = true → ∀ (xs ys : List Value) (w : World), vkinds z xs = true → vkinds z ys = true →
  (Op.equalIn (d + k) t (valL (T t) xs) (valL (T t) ys)).run P w = .ok (veqL xs ys) w
 | 0, _, _, _, h, _, _, _, _, _ => by simp [shapeOk] at h
 | d + 1, k, t, z, h, xs, ys, w, hx, hy => by
  simp only [shapeOk, Bool.and_eq_true] at h
  obtain ⟨hk, h⟩ := h
  obtain ⟨ti, ds, z0, hti, hd, hz, g1, g2, g3, g4, g5, g6, g7, g8, _⟩ := (hT t hk).ex
  have e : d + 1 + k = (d + k) + 1 := by omega
  rw [e]
  split at h
  ·rename_i hkd
   have := g5 hkd; subst this
   obtain ⟨a, r, rfl, hr⟩ := vk_bool hx
   obtain ⟨b, r', rfl, hr'⟩ := vk_bool hy
   rw [vk_nil hr, vk_nil hr']
   have ha : (T t).agg = false := by simpa using h
   simp only [valL, ha, Bool.false_eq_true, if_false, List.headD_cons]
   rw [run_equalIn_bool' _ _ _ _ _ hd]
   simp [veqL]
  ·rename_i k0 _ _ hkd
   have := g4 _ hkd; subst this
   obtain ⟨a, r, rfl, hr⟩ := vk_int hx
   obtain ⟨b, r', rfl, hr'⟩ := vk_int hy
   rw [vk_nil hr, vk_nil hr']
   have ha : (T t).agg = false := by simpa using h
   simp only [valL, ha, Bool.false_eq_true, if_false, List.headD_cons]
   rw [run_equalIn_int _ _ _ _ _ _ _ hd]
   simp [veqL]
  ·rename_i hkd
   have := g6 hkd; subst this
   obtain ⟨a, r, rfl, hr⟩ := vk_str hx
   obtain ⟨b, r', rfl, hr'⟩ := vk_str hy
   rw [vk_nil hr, vk_nil hr']
   have ha : (T t).agg = false := by simpa using h
   simp only [valL, ha, Bool.false_eq_true, if_false, List.headD_cons]
   rw [run_equalIn_string _ _ _ _ _ hd]
   simp [veqL]
  ·rename_i hkd
   simp only [Bool.and_eq_true, Bool.not_eq_true'] at h
   obtain ⟨⟨⟨ha, hst⟩, hnm⟩, hf⟩ := h
   obtain ⟨fs, rfl, hfs⟩ := g8 hkd
   have hfo : P.fieldsOf t = fs := by simp [Program.fieldsOf, hd]
   simp only [valL, ha, if_true]
   rw [run_equalIn_struct _ _ _ _ _ (by rw [hfo]; exact hd) hst, hfo]
   rw [hfo] at hnm
   rw [hfs] at hf
   have := eqFields_ok hT (d := d) (k := k) (fun t z h => eqIn_ok d k t z h) xs ys fs.toList 0 _ w hnm hf (by simpa using hx) (by simpa using hy)
   simpa using this
  ·cases h
theorem structEq (t : TypeId) (z : List Value) (h : shapeOk P T 8 t z = true) (hg : P.eqGuardType P.depth t = false) (ha : (T t).agg = true) : StructEq P t z := by
 intro xs ys x y w hx hy
 have h1 : (Op.equal t (.agg xs.toArray) (.agg ys.toArray)).run P w = .ok (veqL xs ys) w := by
  have := eqIn_ok hT 8 9992 t z h xs ys w hx hy
  simp only [valL, ha, if_true] at this
  exact this
 constructor
 ·simp [eqGuard, binOp, hg, h1]
 ·simp [eqGuard, binOp, hg, h1]
end
end Go.Ma
namespace Go.Ma
open Go
section
variable {X Y : Type}
theorem br_ss (c : Bool) (x y : X) : br c (some x) (some y) = some (bif c then x else y) := by cases c <;> rfl
theorem br_sb (c x y : Bool) : br c (some x) (some y) = some (bif c then x else y) := br_ss c x y
theorem br_true (a b : Option X) : br true a b = a := rfl
theorem br_false (a b : Option X) : br false a b = b := rfl
theorem req_true (a : Option X) : req true a = a := rfl
theorem req_of {c : Bool} (h : c = true) (a : Option X) : req c a = a := by rw [h]; rfl
theorem both_self (a : Option X) : both a a = a := by unfold both; exact if_pos rfl
theorem dup_eq (n : Nat) (a : Option X) : dup n a = a := by
 induction n with
 | zero => rfl
 | succ n ih => rw [dup, ih, both_self]
theorem bind_s (x : X) (f : X → Option Y) : (some x).bind f = f x := rfl
end
def betw (x a b : Int) : Bool := decide (a ≤ x) && decide (x ≤ b)
theorem betw_iff {x a b : Int} : betw x a b = true ↔ a ≤ x ∧ x ≤ b := by simp [betw]
theorem betw_bif (x a b : Int) : (bif decide (x ≥ a) then decide (x ≤ b) else false) = betw x a b := by
 unfold betw
 cases decide (x ≥ a) <;> rfl
theorem i64ok_of {x : Int} (h : -9223372036854775808 ≤ x) (h' : x < 9223372036854775808) : i64ok x = true := i64ok_iff.2 ⟨h, h'⟩
theorem inRange_of {i n : Int} (h : 0 ≤ i) (h' : i < n) : inRange i n = true := by simp [inRange, h, h']
theorem room_of {a b : Int} (h0 : 0 ≤ a) (h1 : 0 ≤ b) (h : a + b ≤ 274877906944) : room a b = true := by
 unfold room
 rw [Nat.ble_eq]
 omega
section
variable {α : Type}
theorem lenL_nonneg (l : List α) : 0 ≤ lenL l := by unfold lenL; omega
theorem geti_nat (l : List α) (i : Nat) : geti l (i : Int) = l[i]? := by
 unfold geti
 rw [if_pos (by omega)]
 rfl
theorem geti_at {l : List α} {i : Nat} {a : α} (h : l[i]? = some a) : geti l (i : Int) = some a := (geti_nat l i).trans h
end
theorem zq6 {α Y : Type} (step : (α → Option Y) → α → Option Y) (n : Nat) (x : α) : loopN step (n + 1) x = step (loopN step n) x := rfl
theorem loop_up {α Y : Type} {step : (α → Option Y) → α → Option Y} (mk : Nat → α) (n : Nat) (f : Nat → Option Y)
  (h : ∀ (rec : α → Option Y) i, i < n → rec (mk (i + 1)) = f (i + 1) → step rec (mk i) = f i) (hend : ∀ rec, step rec (mk n) = f n) : ∀ (N i : Nat), i ≤ n → n - i < N → loopN step N (mk i) = f i := by
 intro N
 induction N with
 | zero => intro i _ hx; omega
 | succ N ih =>
  intro i hi hx
  rw [zq6]
  by_cases he : i = n
  ·subst he; exact hend _
  ·exact h _ i (by omega) (ih (i + 1) (by omega) (by omega))
theorem fuel_gt {n : Nat} (h : n < 18446744073709551616) : n < FUEL := by unfold FUEL; exact h
theorem toList_loop (b : ByteArray) (i : Nat) (r : List UInt8) : ByteArray.toList.loop b i r = r.reverse ++ b.data.toList.drop i := by
 rw [ByteArray.toList.loop]
 split
 ·rename_i h
  rw [toList_loop b (i + 1)]
  have h' : i < b.data.toList.length := by simpa using h
  rw [List.drop_eq_getElem_cons h', List.reverse_cons, List.append_assoc]
  have e : b.get! i = b.data.toList[i] := by
   simp only [ByteArray.get!, Array.getElem_toList]
   exact getElem!_pos b.data i (by simpa using h)
  rw [e]
  rfl
 ·rename_i h
  rw [List.drop_of_length_le (by simpa using h), List.append_nil]
 termination_by b.size - i
theorem toList_data (b : ByteArray) : b.toList = b.data.toList := by
 rw [ByteArray.toList, toList_loop]; rfl
theorem beqL_iff (x y : ByteArray) : (x.toList == y.toList) = decide (x = y) := by
 have e : (x.toList = y.toList) = (x = y) := by
  rw [toList_data, toList_data]
  refine propext ⟨fun h => ByteArray.ext (Array.toList_inj.1 h), fun h => by rw [h]⟩
 simp only [← e]
 exact Bool.eq_iff_iff.2 (by simp)
theorem strcmp_eql (x y : ByteArray) : strcmp .eql x y = decide (x = y) := beqL_iff x y
theorem strcmp_neq (x y : ByteArray) : strcmp .neq x y = !decide (x = y) := by
 show (!(x.toList == y.toList)) = _
 rw [beqL_iff]
theorem byteAt_eq {s : ByteArray} {i : Nat} {b : UInt8} (h : s.data.toList[i]? = some b) : byteAt s (i : Int) = (b.toNat : Int) := by
 have h' : s[i]? = some b := by
  rw [Array.getElem?_toList] at h
  obtain ⟨hl, he⟩ := Array.getElem?_eq_some_iff.1 h
  rw [getElem?_pos s i hl]
  exact congrArg some he
 unfold byteAt
 simp only [Int.toNat_natCast]
 rw [h']
theorem data_len (s : ByteArray) : s.data.toList.length = s.size := by simp
theorem drop_all {α : Type} (p : α → Bool) {l : List α} {i : Nat} {a : α} (h : l[i]? = some a) : (l.drop i).all p = (p a && (l.drop (i + 1)).all p) := by
 obtain ⟨hl, he⟩ := List.getElem?_eq_some_iff.1 h
 rw [List.drop_eq_getElem_cons hl, he, List.all_cons]
theorem drop_cons {α : Type} {l : List α} {i : Nat} {a : α} (h : l[i]? = some a) : l.drop i = a :: l.drop (i + 1) := by
 obtain ⟨hl, he⟩ := List.getElem?_eq_some_iff.1 h
 rw [List.drop_eq_getElem_cons hl, he]
end Go.Ma
namespace Go.Ma
open Go
def Ad.wf (a : Ad) : Prop := 0 ≤ a.hi ∧ a.hi < 18446744073709551616 ∧ 0 ≤ a.lo ∧ a.lo < 18446744073709551616
theorem Ad.In.wf {a : Ad} (h : a.In) : a.wf := ⟨h.1.1, h.1.2, h.2.1, h.2.2⟩
def chkA (a : Ad) : Int := if a.v6 = false ∧ (a.hi ≠ 0 ∨ 4294967296 ≤ a.lo) then 3 else 0
def wid (v6 : Bool) : Nat := if v6 then 128 else 32
def Ad.num (a : Ad) : Nat := a.hi.toNat * 18446744073709551616 + a.lo.toNat
def ofNum (v6 : Bool) (n : Nat) : Ad := ⟨v6, (n / 18446744073709551616 : Nat), (n % 18446744073709551616 : Nat)⟩
def Ad.right (a : Ad) : Prop := a.wf ∧ chkA a = 0
theorem wrap_i64 {n : Int} (h : -9223372036854775808 ≤ n) (h' : n < 9223372036854775808) : IntKind.i64.wrap n = n := IntWalk.i64_in n (by omega)
theorem wrap_u64 {n : Int} (h : 0 ≤ n) (h' : n < 18446744073709551616) : IntKind.u64.wrap n = n := by
 simp only [IntKind.wrap, IntKind.bits, IntKind.signed, Bool.false_and]
 simp
 omega
theorem wrap_u64_mod (n : Int) : IntKind.u64.wrap n = n % 18446744073709551616 := by
 simp only [IntKind.wrap, IntKind.bits, IntKind.signed, Bool.false_and]
 simp
theorem right_num (a : Ad) (h : a.right) : a.num < 2 ^ wid a.v6 := by
 obtain ⟨⟨h1, h2, h3, h4⟩, hc⟩ := h
 unfold chkA at hc
 unfold Ad.num wid
 cases hv : a.v6
 ·simp only [hv] at hc ⊢
  split at hc
  ·cases hc
  ·rename_i hn
   simp only [Bool.false_eq_true, if_false]
   simp only [true_and, not_or, Decidable.not_not] at hn
   omega
 ·simp only [if_true]
  omega
theorem ofNum_num (a : Ad) (h : a.wf) : ofNum a.v6 a.num = a := by
 obtain ⟨h1, h2, h3, h4⟩ := h
 unfold ofNum Ad.num
 cases a with
 | mk v hi lo =>
  simp only at h1 h2 h3 h4
  simp only [Ad.mk.injEq, true_and]
  constructor <;> omega
theorem num_ofNum (v6 : Bool) (n : Nat) : (ofNum v6 n).num = n := by
 unfold ofNum Ad.num
 simp only [Int.toNat_natCast]
 omega
theorem num_inj {a b : Ad} (ha : a.wf) (hb : b.wf) (hv : a.v6 = b.v6) (h : a.num = b.num) : a = b := by
 rw [← ofNum_num a ha, ← ofNum_num b hb, hv, h]
theorem pow_split {r : Nat} (h : 64 ≤ r) : 2 ^ r = 2 ^ (r - 64) * 18446744073709551616 := by
 have : r = (r - 64) + 64 := by omega
 rw [this, Nat.pow_add]
 simp
theorem pow_lt64 {r : Nat} (h : r < 64) : 2 ^ r ≤ 9223372036854775808 := by
 have := Nat.pow_le_pow_right (n := 2) (by omega) (show r ≤ 63 by omega)
 simpa using this
theorem mask_small {r : Nat} (h : r < 64) : (2 ^ r - 1) / 18446744073709551616 = 0 ∧ (2 ^ r - 1) % 18446744073709551616 = 2 ^ r - 1 := by
 have := pow_lt64 h
 constructor <;> omega
theorem mask_big {r : Nat} (h : 64 ≤ r) : (2 ^ r - 1) / 18446744073709551616 = 2 ^ (r - 64) - 1 ∧ (2 ^ r - 1) % 18446744073709551616 = 18446744073709551615 := by
 have h1 := pow_split h
 have h2 := Nat.two_pow_pos (r - 64)
 generalize 2 ^ (r - 64) = q at h1 h2 ⊢
 rw [h1]
 constructor <;> omega
theorem shl_one {r : Nat} (h : r < 64) : aop .sub .u64 (aop .shl .u64 1 (r : Int)) 1 = ((2 ^ r - 1 : Nat) : Int) := by
 have h1 := pow_lt64 h
 have h2 := Nat.two_pow_pos r
 have e1 : aop .shl .u64 1 (r : Int) = ((2 ^ r : Nat) : Int) := by
  simp only [aop, IntKind.bits, Int.toNat_natCast, Nat.min_eq_left (show r ≤ 64 by omega)]
  rw [wrap_u64_mod]
  have hc : (2 : Int) ^ r = ((2 ^ r : Nat) : Int) := by push_cast; rfl
  rw [Int.one_mul, hc]
  generalize 2 ^ r = q at h1 h2 ⊢
  omega
 rw [e1]
 simp only [aop]
 rw [wrap_u64 (by omega) (by omega)]
 omega
def cutN (n k : Nat) : Nat := n / 2 ^ k * 2 ^ k
theorem andNot_mask (x : Nat) (k : Nat) (hx : x < 18446744073709551616) (hk : k ≤ 64) : aop .andNot .u64 (x : Int) ((2 ^ k - 1 : Nat) : Int) = ((x / 2 ^ k * 2 ^ k : Nat) : Int) := by
 have hp : 2 ^ k ≤ 18446744073709551616 := by
  have := Nat.pow_le_pow_right (n := 2) (by omega) hk
  simpa using this
 have hpos := Nat.two_pow_pos k
 have e1 : (BitVec.ofInt 64 (x : Int)).toNat = x := by
  rw [BitVec.ofInt_natCast, BitVec.toNat_ofNat]
  exact Nat.mod_eq_of_lt (by simpa using hx)
 have e2 : (BitVec.ofInt 64 ((2 ^ k - 1 : Nat) : Int)).toNat = 2 ^ k - 1 := by
  rw [BitVec.ofInt_natCast, BitVec.toNat_ofNat]
  exact Nat.mod_eq_of_lt (by simp only [Nat.reducePow]; omega)
 have e3 : (BitVec.ofInt 64 (x : Int) &&& ~~~ BitVec.ofInt 64 ((2 ^ k - 1 : Nat) : Int)).toNat = x / 2 ^ k * 2 ^ k := by
  rw [BitVec.toNat_and, BitVec.toNat_not, e1, e2]
  apply Nat.eq_of_testBit_eq
  intro i
  rw [Nat.testBit_and, show 2 ^ 64 - 1 - (2 ^ k - 1) = 2 ^ 64 - ((2 ^ k - 1) + 1) by omega, Nat.testBit_two_pow_sub_succ (by simp only [Nat.reducePow]; omega), Nat.testBit_two_pow_sub_one, Nat.testBit_mul_two_pow, Nat.testBit_div_two_pow]
  by_cases hi : k ≤ i
  ·rw [Nat.sub_add_cancel hi]
   by_cases h64 : i < 64
   ·simp [hi, h64, Nat.not_lt.2 hi]
   ·have : x.testBit i = false := Nat.testBit_lt_two_pow (Nat.lt_of_lt_of_le (by simpa using hx : x < 2 ^ 64) (Nat.pow_le_pow_right (by omega) (by omega)))
    simp [this]
  ·simp [hi, Nat.lt_of_not_le hi]
 simp only [aop]
 show IntKind.u64.wrap ((BitVec.ofInt 64 (x : Int) &&& ~~~ BitVec.ofInt 64 ((2 ^ k - 1 : Nat) : Int)).toNat : Int) = _
 rw [e3]
 have : x / 2 ^ k * 2 ^ k ≤ x := Nat.div_mul_le_self x _
 exact wrap_u64 (by omega) (by omega)
theorem mask_parts (k : Nat) : (2 ^ k - 1) / 18446744073709551616 = 2 ^ (k - 64) - 1 ∧ (2 ^ k - 1) % 18446744073709551616 = 2 ^ (min k 64) - 1 := by
 by_cases h : k < 64
 ·obtain ⟨h1, h2⟩ := mask_small h
  rw [show k - 64 = 0 by omega, Nat.min_eq_left (by omega)]
  exact ⟨h1, h2⟩
 ·obtain ⟨h1, h2⟩ := mask_big (r := k) (by omega)
  rw [Nat.min_eq_right (by omega)]
  exact ⟨h1, h2⟩
theorem cut_parts' (Q hi lo k : Nat) (hQ : Q = 2 ^ 64) (hlo : lo < Q) : (hi * Q + lo) / 2 ^ k * 2 ^ k = (hi / 2 ^ (k - 64) * 2 ^ (k - 64)) * Q + lo / 2 ^ (min k 64) * 2 ^ (min k 64) := by
 by_cases h : k ≤ 64
 ·have e0 : k - 64 = 0 := by omega
  rw [e0, Nat.min_eq_left h]
  have e : Q = 2 ^ k * 2 ^ (64 - k) := by
   rw [hQ, ← Nat.pow_add, show k + (64 - k) = 64 by omega]
  have hpos := Nat.two_pow_pos k
  have e2 : hi * Q + lo = 2 ^ k * (hi * 2 ^ (64 - k)) + lo := by rw [e, Nat.mul_left_comm]
  rw [e2, Nat.mul_add_div hpos, Nat.add_mul, Nat.pow_zero, Nat.div_one, Nat.mul_one, e]
  have e3 : hi * 2 ^ (64 - k) * 2 ^ k = hi * (2 ^ k * 2 ^ (64 - k)) := by rw [Nat.mul_assoc, Nat.mul_comm (2 ^ (64 - k))]
  rw [e3]
 ·have e : 2 ^ k = 2 ^ (k - 64) * Q := by
   rw [hQ, ← Nat.pow_add, show k - 64 + 64 = k by omega]
  have hpos := Nat.two_pow_pos (k - 64)
  have hQ0 : 0 < Q := by omega
  rw [Nat.min_eq_right (by omega), ← hQ, e, Nat.mul_comm (2 ^ (k - 64)) Q, ← Nat.div_div_eq_div_mul]
  have e1 : (hi * Q + lo) / Q = hi := by rw [Nat.mul_comm, Nat.mul_add_div hQ0, Nat.div_eq_of_lt hlo, Nat.add_zero]
  rw [e1, Nat.div_eq_of_lt hlo, Nat.zero_mul, Nat.add_zero, Nat.mul_comm Q, Nat.mul_assoc]
theorem cut_parts (hi lo k : Nat) (hlo : lo < 18446744073709551616) : cutN (hi * 18446744073709551616 + lo) k = (hi / 2 ^ (k - 64) * 2 ^ (k - 64)) * 18446744073709551616 + lo / 2 ^ (min k 64) * 2 ^ (min k 64) :=
 cut_parts' 18446744073709551616 hi lo k (by decide) hlo
def cutA (a : Ad) (bits : Int) : Ad := ofNum a.v6 (cutN a.num (wid a.v6 - bits.toNat))
def maskA (v6 : Bool) (bits : Int) : Ad := ofNum v6 (2 ^ (wid v6 - bits.toNat) - 1)
def lastA (p : Pf) : Ad := ofNum p.ad.v6 (p.ad.num + (2 ^ (wid p.ad.v6 - p.bits.toNat) - 1))
theorem cutA_parts (a : Ad) (h : a.wf) (bits : Int) : cutA a bits =
  ⟨a.v6, ((a.hi.toNat / 2 ^ (wid a.v6 - bits.toNat - 64) * 2 ^ (wid a.v6 - bits.toNat - 64) : Nat) : Int), ((a.lo.toNat / 2 ^ (min (wid a.v6 - bits.toNat) 64) * 2 ^ (min (wid a.v6 - bits.toNat) 64) : Nat) : Int)⟩ := by
 obtain ⟨h1, h2, h3, h4⟩ := h
 unfold cutA Ad.num
 rw [cut_parts _ _ _ (by omega)]
 have hlt : a.lo.toNat / 2 ^ (min (wid a.v6 - bits.toNat) 64) * 2 ^ (min (wid a.v6 - bits.toNat) 64) < 18446744073709551616 := Nat.lt_of_le_of_lt (Nat.div_mul_le_self _ _) (by omega)
 generalize a.lo.toNat / 2 ^ (min (wid a.v6 - bits.toNat) 64) * 2 ^ (min (wid a.v6 - bits.toNat) 64) = lo at hlt ⊢
 generalize a.hi.toNat / 2 ^ (wid a.v6 - bits.toNat - 64) * 2 ^ (wid a.v6 - bits.toNat - 64) = hi
 unfold ofNum
 simp only [Ad.mk.injEq, true_and]
 constructor <;> omega
theorem maskA_parts (v6 : Bool) (bits : Int) : maskA v6 bits = ⟨v6, ((2 ^ (wid v6 - bits.toNat - 64) - 1 : Nat) : Int), ((2 ^ (min (wid v6 - bits.toNat) 64) - 1 : Nat) : Int)⟩ := by
 unfold maskA ofNum
 rw [(mask_parts _).1, (mask_parts _).2]
def chkP (p : Pf) : Int :=
 if chkA p.ad ≠ 0 then chkA p.ad else if p.bits < 0 ∨ p.bits > wid p.ad.v6 then 3 else if cutA p.ad p.bits ≠ p.ad then 4 else 0
theorem chkP_bits {p : Pf} (h : chkP p = 0) : 0 ≤ p.bits ∧ p.bits ≤ (wid p.ad.v6 : Nat) := by
 unfold chkP at h
 split at h
 ·rename_i h1; exact absurd h h1
 split at h
 ·cases h
 ·rename_i h1; simp only [not_or] at h1; omega
def ordI (x y : Int) : Int := if x < y then -1 else if x > y then 1 else 0
def ordA (a b : Ad) : Int := if a.v6 ≠ b.v6 ∧ b.v6 then -1 else if a.v6 ≠ b.v6 then 1 else if a.hi ≠ b.hi then ordI a.hi b.hi else ordI a.lo b.lo
def ordP (p q : Pf) : Int := if ordA p.ad q.ad ≠ 0 then ordA p.ad q.ad else p.bits - q.bits
def holds (p : Pf) (a : Ad) : Bool := p.ad.v6 == a.v6 && decide (cutA a p.bits = p.ad)
def over (p q : Pf) : Bool := decide (p.bits ≤ q.bits) && holds p q.ad
def bitV (n i : Nat) : UInt8 := if n.testBit i then 49 else 48
def bitsTo (n top cnt : Nat) : List UInt8 := (List.range cnt).map fun j => bitV n (top - j)
theorem bitsTo_succ (n top c : Nat) : bitsTo n top (c + 1) = bitsTo n top c ++ [bitV n (top - c)] := by
 simp [bitsTo, List.range_succ]
theorem zq3 (n top c : Nat) : (bitsTo n top c).length = c := by simp [bitsTo]
def bitsA (a : Ad) : List UInt8 := if a.v6 then bitsTo a.hi.toNat 63 64 ++ bitsTo a.lo.toNat 63 64 else (bitsTo a.hi.toNat 63 64 ++ bitsTo a.lo.toNat 63 64).drop 96
def ofBytes (l : List UInt8) : ByteArray := ⟨l.toArray⟩
theorem bit_step (x i : Int) (hx : 0 ≤ x) (hx' : x < 18446744073709551616) (hi : 0 ≤ i) (hi' : i ≤ 63) :
  IntKind.u8.wrap (aop .add .u64 48 (aop .rem .u64 (aop .shr .u64 x i) 2)) = ((bitV x.toNat i.toNat).toNat : Int) := by
 obtain ⟨n, rfl⟩ := Int.eq_ofNat_of_zero_le hx
 obtain ⟨k, rfl⟩ := Int.eq_ofNat_of_zero_le hi
 have e1 : aop .shr .u64 (n : Int) (k : Int) = ((n / 2 ^ k : Nat) : Int) := by
  simp only [aop, Int.toNat_natCast, IntKind.bits, Nat.min_eq_left (show k ≤ 64 by omega)]
  rw [show ((2 : Int) ^ k) = ((2 ^ k : Nat) : Int) by push_cast; rfl, Int.fdiv_eq_ediv_of_nonneg _ (Int.natCast_nonneg _)]
  rfl
 have e2 : aop .rem .u64 ((n / 2 ^ k : Nat) : Int) 2 = ((n / 2 ^ k % 2 : Nat) : Int) := by
  simp only [aop]
  rw [Int.tmod_eq_emod_of_nonneg (Int.natCast_nonneg _)]
  rfl
 rw [e1, e2]
 have hb : n.testBit k = decide (n / 2 ^ k % 2 = 1) := Nat.testBit_eq_decide_div_mod_eq ..
 simp only [Int.toNat_natCast, bitV, hb]
 have hlt : n / 2 ^ k % 2 < 2 := Nat.mod_lt _ (by omega)
 generalize n / 2 ^ k % 2 = q at hlt ⊢
 match q, hlt with
 | 0, _ => decide
 | 1, _ => decide
end Go.Ma
namespace Go.Ma
open Go
theorem occ_at (X Y sub : List UInt8) : Lib.occAt (X ++ sub ++ Y) sub X.length = true := by
 unfold Lib.occAt
 rw [List.append_assoc, List.drop_left, List.isPrefixOf_iff_prefix]
 exact List.prefix_append _ _
theorem index_at {s sub : List UInt8} {k : Nat} (hk : k ≤ s.length) (h : Lib.occAt s sub k = true) (hn : ∀ j, j < k → Lib.occAt s sub j = false) : Lib.index s sub = (k : Int) := by
 rcases Lib.index_spec s sub with ⟨_, h2⟩ | ⟨i, h1, _, h3, h4⟩
 ·rw [h2 k hk] at h; cases h
 ·rw [h1]
  rcases Nat.lt_trichotomy i k with hlt | he | hlt
  ·rw [hn i hlt] at h3; cases h3
  ·rw [he]
  ·rw [h4 k hlt] at h; cases h
theorem index_no {s sub : List UInt8} (hn : ∀ j, j ≤ s.length → Lib.occAt s sub j = false) : Lib.index s sub = -1 := by
 rcases Lib.index_spec s sub with ⟨h1, _⟩ | ⟨i, _, h2, h3, _⟩
 ·exact h1
 ·rw [hn i h2] at h3; cases h3
theorem occ_one {s : List UInt8} {c : UInt8} {j : Nat} : Lib.occAt s [c] j = decide (s[j]? = some c) := by
 unfold Lib.occAt
 rw [← List.head?_drop]
 cases s.drop j with
 | nil => rfl
 | cons b r =>
  rw [Bool.eq_iff_iff]
  simp [List.isPrefixOf]
  exact eq_comm
theorem occ_two {s : List UInt8} {c d : UInt8} {j : Nat} : Lib.occAt s [c, d] j = (decide (s[j]? = some c) && decide (s[j + 1]? = some d)) := by
 unfold Lib.occAt
 have h1 : s[j]? = (s.drop j)[0]? := by rw [List.getElem?_drop, Nat.add_zero]
 have h2 : s[j + 1]? = (s.drop j)[1]? := by rw [List.getElem?_drop]
 rw [h1, h2]
 match s.drop j with
 | [] => rfl
 | [b] => simp [List.isPrefixOf]
 | b :: b2 :: r =>
  rw [Bool.eq_iff_iff]
  simp [List.isPrefixOf]
  constructor
  ·rintro ⟨a, b⟩; exact ⟨a.symm, b.symm⟩
  ·rintro ⟨a, b⟩; exact ⟨a.symm, b.symm⟩
theorem index_first (X Y : List UInt8) (c : UInt8) (h : c ∉ X) : Lib.index (X ++ c :: Y) [c] = (X.length : Int) := by
 refine index_at (by simp) ?_ fun j hj => ?_
 ·have := occ_at X Y [c]
  rwa [List.append_assoc] at this
 ·rw [occ_one]
  refine decide_eq_false fun he => ?_
  rw [List.getElem?_append_left hj] at he
  exact h (List.mem_of_getElem? he)
theorem index_none1 (X : List UInt8) (c : UInt8) (h : c ∉ X) : Lib.index X [c] = -1 := index_no fun j _ => by
 rw [occ_one]
 exact decide_eq_false fun he => h (List.mem_of_getElem? he)
theorem byte_first : ∀ (X Y : List UInt8) (c : UInt8), c ∉ X → Lib.indexByte (X ++ c :: Y) c = (X.length : Int)
 | [], Y, c, _ => by simp [Lib.indexByte]
 | b :: X, Y, c, h => by
  have hb : (b == c) = false := by
   rw [beq_eq_false_iff_ne]
   exact fun e => h (by simp [e])
  rw [List.cons_append, Lib.indexByte, hb, byte_first X Y c fun hx => h (by simp [hx])]
  have : ((X.length : Int) == -1) = false := by rw [beq_eq_false_iff_ne]; omega
  rw [this]
  simp
theorem byte_none : ∀ (X : List UInt8) (c : UInt8), c ∉ X → Lib.indexByte X c = -1
 | [], _, _ => rfl
 | b :: X, c, h => by
  have hb : (b == c) = false := by
   rw [beq_eq_false_iff_ne]
   exact fun e => h (by simp [e])
  rw [Lib.indexByte, hb, byte_none X c fun hx => h (by simp [hx])]
  rfl
theorem byte_some : ∀ {X : List UInt8} {c : UInt8}, c ∈ X → 0 ≤ Lib.indexByte X c
 | [], _, h => by cases h
 | b :: X, c, h => by
  rw [Lib.indexByte]
  cases hb : b == c
  ·have hx : c ∈ X := by
    rcases List.mem_cons.1 h with rfl | hx
    ·simp at hb
    ·exact hx
   have ih := byte_some hx
   have : (Lib.indexByte X c == -1) = false := by rw [beq_eq_false_iff_ne]; omega
   rw [this]
   simp only [Bool.false_eq_true, if_false]
   omega
  ·simp
theorem join_cons2 (x : List UInt8) (y : List UInt8) (r : List (List UInt8)) (c : UInt8) : Lib.join (x :: y :: r) [c] = x ++ c :: Lib.join (y :: r) [c] := by
 rw [Lib.join_cons, Lib.join_cons]
 simp [Lib.joinTail]
theorem splitK_join (c : UInt8) : ∀ (xs : List (List UInt8)), xs ≠ [] → (∀ x ∈ xs, c ∉ x) → ∀ k, xs.length ≤ k + 1 → Lib.splitK [c] 0 k (Lib.join xs [c]) = xs
 | [], h, _, _, _ => absurd rfl h
 | [x], _, hx, k, _ => by
  rw [Lib.join_one]
  cases k with
  | zero => rfl
  | succ k =>
   rw [Lib.splitK, index_none1 x c (hx x (by simp))]
   rfl
 | x :: y :: r, _, hx, k, hk => by
  cases k with
  | zero => simp at hk
  | succ k =>
   rw [join_cons2, Lib.splitK, index_first x _ c (hx x (by simp))]
   have : ((x.length : Int) == -1) = false := by rw [beq_eq_false_iff_ne]; omega
   rw [this]
   simp only [Bool.false_eq_true, if_false, Int.toNat_natCast, Nat.add_zero]
   have h1 : (x ++ c :: Lib.join (y :: r) [c]).take x.length = x := List.take_left
   have h2 : (x ++ c :: Lib.join (y :: r) [c]).drop (x.length + [c].length) = Lib.join (y :: r) [c] := by
    rw [← List.drop_drop, List.drop_left]
    rfl
   rw [h1, h2, splitK_join c (y :: r) (by simp) (fun z hz => hx z (by simp [hz])) k (by simpa using hk)]
theorem count_join (c : UInt8) : ∀ (xs : List (List UInt8)), (∀ x ∈ xs, c ∉ x) → (Lib.join xs [c]).count c + 1 = xs.length ∨ xs = []
 | [], _ => .inr rfl
 | [x], h => .inl (by rw [Lib.join_one, List.count_eq_zero.2 (h x (by simp))]; rfl)
 | x :: y :: r, h => by
  rcases count_join c (y :: r) (fun z hz => h z (by simp [hz])) with h1 | h1
  ·left
   rw [join_cons2, List.count_append, List.count_cons_self, List.count_eq_zero.2 (h x (by simp))]
   simp only [List.length_cons] at h1 ⊢
   omega
  ·cases h1
theorem split_join (c : UInt8) {xs : List (List UInt8)} (h0 : xs ≠ []) (h : ∀ x ∈ xs, c ∉ x) : splitOn ⟨(Lib.join xs [c]).toArray⟩ c = xs.map fun x => ⟨x.toArray⟩ := by
 have hd : (splitOn ⟨(Lib.join xs [c]).toArray⟩ c).map (·.data.toList) = xs := by
  unfold splitOn
  rw [Lib.splitB_data]
  have hc : Lib.countB ⟨(Lib.join xs [c]).toArray⟩ ⟨#[c]⟩ = (Lib.join xs [c]).count c := by
   have := Lib.count_one c (Lib.join xs [c])
   exact this
  rw [hc]
  rcases count_join c xs h with h1 | h1
  ·exact splitK_join c xs h0 h _ (by omega)
  ·exact absurd h1 h0
 have := congrArg (List.map fun x : List UInt8 => (⟨x.toArray⟩ : ByteArray)) hd
 rw [List.map_map] at this
 rw [← this]
 have : ((fun x : List UInt8 => (⟨x.toArray⟩ : ByteArray)) ∘ fun x : ByteArray => x.data.toList) = id := by
  funext x
  cases x
  rfl
 rw [this, List.map_id]
theorem hexD_val (d : Nat) (h : d < 16) : hexv (hexD d) = some d := by
 have : ∀ d : Fin 16, hexv (hexD d) = some d.val := by decide +kernel
 exact this ⟨d, h⟩
theorem hexD_plain (d : Nat) (h : d < 16) : plainB (hexD d) = true ∧ hexD d ≠ 58 ∧ hexD d ≠ 46 ∧ hexD d ≠ 47 := by
 have : ∀ d : Fin 16, plainB (hexD d) = true ∧ hexD d ≠ 58 ∧ hexD d ≠ 46 ∧ hexD d ≠ 47 := by decide +kernel
 exact this ⟨d, h⟩
theorem hexF_cons (d : Nat) (h : d < 16) (r : List UInt8) (a : Nat) (ha : a < 4096) : hexF (hexD d :: r) a = hexF r (a * 16 + d) := by
 rw [hexF, hexD_val d h]
 simp only
 rw [if_neg (by omega)]
theorem hex4_read (n : Nat) (h : n < 65536) : hexF (hex4 n) 0 = some n ∧ 1 ≤ (hex4 n).length ∧ (hex4 n).length ≤ 4 ∧ (∀ c ∈ hex4 n, plainB c = true ∧ c ≠ 58 ∧ c ≠ 46 ∧ c ≠ 47) := by
 have key : ∀ d : Nat, d < 16 → plainB (hexD d) = true ∧ hexD d ≠ 58 ∧ hexD d ≠ 46 ∧ hexD d ≠ 47 := hexD_plain
 unfold hex4
 by_cases h1 : n < 16
 ·rw [if_pos h1]
  refine ⟨?_, by simp, by simp, fun c hc => ?_⟩
  ·rw [hexF_cons n h1 _ _ (by omega)]
   simp [hexF]
  ·rw [List.mem_singleton] at hc
   rw [hc]
   exact key _ h1
 ·rw [if_neg h1]
  by_cases h2 : n < 256
  ·rw [if_pos h2]
   refine ⟨?_, by simp, by simp, fun c hc => ?_⟩
   ·rw [hexF_cons _ (by omega) _ _ (by omega), hexF_cons _ (by omega) _ _ (by omega)]
    simp only [hexF, Option.some.injEq]
    omega
   ·simp only [List.mem_cons, List.not_mem_nil, or_false] at hc
    rcases hc with rfl | rfl <;> exact key _ (by omega)
  ·rw [if_neg h2]
   by_cases h3 : n < 4096
   ·rw [if_pos h3]
    refine ⟨?_, by simp, by simp, fun c hc => ?_⟩
    ·rw [hexF_cons _ (by omega) _ _ (by omega), hexF_cons _ (by omega) _ _ (by omega), hexF_cons _ (by omega) _ _ (by omega)]
     simp only [hexF, Option.some.injEq]
     omega
    ·simp only [List.mem_cons, List.not_mem_nil, or_false] at hc
     rcases hc with rfl | rfl | rfl <;> exact key _ (by omega)
   ·rw [if_neg h3]
    refine ⟨?_, by simp, by simp, fun c hc => ?_⟩
    ·rw [hexF_cons _ (by omega) _ _ (by omega), hexF_cons _ (by omega) _ _ (by omega), hexF_cons _ (by omega) _ _ (by omega), hexF_cons _ (by omega) _ _ (by omega)]
     simp only [hexF, Option.some.injEq]
     omega
    ·simp only [List.mem_cons, List.not_mem_nil, or_false] at hc
     rcases hc with rfl | rfl | rfl | rfl <;> exact key _ (by omega)
theorem part_hex (n : Nat) (h : n < 65536) : partF ⟨(hex4 n).toArray⟩ 16 4 65535 = some (n : Int) := by
 obtain ⟨h1, h2, h3, h4⟩ := hex4_read n h
 unfold partF
 have hall : (hex4 n).all plainB = true := List.all_eq_true.2 fun c hc => (h4 c hc).1
 have hsz : (⟨(hex4 n).toArray⟩ : ByteArray).size = (hex4 n).length := by simp [ByteArray.size]
 rw [if_pos hall]
 have hn : numU 16 ⟨(hex4 n).toArray⟩ = some n := by
  unfold numU hexU
  rw [if_neg (by decide), if_neg (by rw [hsz]; omega)]
  exact h1
 rw [hn]
 simp only
 rw [if_neg]
 rw [hsz]
 omega
theorem part_dec (n : Nat) (h : n < 256) : partF ⟨(dec3 n).toArray⟩ 10 3 255 = some (n : Int) := by
 have : ∀ d : Fin 256, partF ⟨(dec3 d).toArray⟩ 10 3 255 = some ((d.val : Nat) : Int) := by decide +kernel
 exact this ⟨n, h⟩
theorem dec3_chars (n : Nat) (h : n < 1000) : 1 ≤ (dec3 n).length ∧ (dec3 n).length ≤ 3 ∧ ∀ c ∈ dec3 n, c ≠ 58 ∧ c ≠ 46 ∧ c ≠ 47 := by
 have : ∀ d : Fin 1000, 1 ≤ (dec3 d).length ∧ (dec3 d).length ≤ 3 ∧ (dec3 d).all (fun c => !(c == 58) && !(c == 46) && !(c == 47)) = true := by decide +kernel
 obtain ⟨a, b, c⟩ := this ⟨n, h⟩
 refine ⟨a, b, fun x hx => ?_⟩
 have := List.all_eq_true.1 c x hx
 simpa [and_assoc] using this
end Go.Ma
namespace Go.Ma
open Go
theorem addr_Check_eq (a : Ad) : addr_Check_t a = some (chkA a, ()) := by
 unfold addr_Check_t chkA
 cases hv : a.v6 <;> by_cases h1 : a.hi = 0 <;> by_cases h2 : a.lo ≥ 4294967296 <;> simp [br_true, br_false, h1, h2]
theorem R_CheckAddr_eq {a : Ad} (h : a.In) : R_CheckAddr_t a = some (chkA a, ()) := by
 have h0 := h.1.1
 unfold R_CheckAddr_t chkA
 cases hv : a.v6 <;> by_cases h1 : a.hi > 0 <;> by_cases h2 : a.lo > 4294967295
 all_goals (simp [br_true, br_false, h1, h2]; try omega)
theorem wid_le (v : Bool) : wid v ≤ 128 := by cases v <;> decide
theorem prefix_Wide_eq (a : Ad) : prefix_Wide_t a = some (((wid a.v6 : Nat) : Int), ()) := by
 unfold prefix_Wide_t
 cases a.v6 <;> rfl
theorem R_wide_eq (a : Ad) : R_wide_t a = some (((wid a.v6 : Nat) : Int), ()) := by
 unfold R_wide_t
 cases a.v6 <;> rfl
theorem R_between_eq (x a b : Int) : R_between_t x a b = some (betw x a b, ()) := by
 unfold R_between_t
 rw [br_ss, bind_s, betw_bif]
theorem prefix_mask_eq (a : Ad) (bits : Int) (hb : 0 ≤ bits) (hb' : bits ≤ (wid a.v6 : Nat)) : prefix_mask_t a bits = some (maskA a.v6 bits, ()) := by
 unfold prefix_mask_t
 rw [prefix_Wide_eq, bind_s, maskA_parts]
 have hw := wid_le a.v6
 obtain ⟨r, hr⟩ : ∃ r : Nat, ((wid a.v6 : Nat) : Int) - bits = (r : Int) := ⟨(((wid a.v6 : Nat) : Int) - bits).toNat, by omega⟩
 have hrn : wid a.v6 - bits.toNat = r := by omega
 rw [hrn, hr]
 rw [req_of (i64ok_of (by omega) (by omega))]
 by_cases h1 : r < 64
 ·rw [decide_eq_true (show (r : Int) < 64 by omega), br_true, req_of (by simp), decide_eq_false (show ¬ (r : Int) > 64 by omega), br_false, shl_one h1]
  rw [show r - 64 = 0 by omega, Nat.min_eq_left (by omega)]
  rfl
 ·rw [decide_eq_false (show ¬ (r : Int) < 64 by omega), br_false]
  by_cases h2 : r > 64
  ·rw [decide_eq_true (show (r : Int) > 64 by omega), br_true]
   by_cases h3 : r < 128
   ·rw [decide_eq_true (show (r : Int) < 128 by omega), br_true, req_of (i64ok_of (by omega) (by omega)), req_of (by simp; omega)]
    rw [show (r : Int) - 64 = ((r - 64 : Nat) : Int) by omega, shl_one (by omega), Nat.min_eq_right (by omega)]
    rfl
   ·rw [decide_eq_false (show ¬ (r : Int) < 128 by omega), br_false]
    have : r = 128 := by omega
    subst this
    rfl
  ·have : r = 64 := by omega
   subst this
   rfl
theorem prefix_Cut_eq (a : Ad) (h : a.wf) (bits : Int) (hb : 0 ≤ bits) (hb' : bits ≤ (wid a.v6 : Nat)) : prefix_Cut_t a bits = some (cutA a bits, ()) := by
 unfold prefix_Cut_t
 rw [prefix_mask_eq a bits hb hb', bind_s, maskA_parts, cutA_parts a h]
 obtain ⟨h1, h2, h3, h4⟩ := h
 have hw := wid_le a.v6
 have e1 := andNot_mask a.hi.toNat (wid a.v6 - bits.toNat - 64) (by omega) (by omega)
 have e2 := andNot_mask a.lo.toNat (min (wid a.v6 - bits.toNat) 64) (by omega) (by omega)
 rw [Int.toNat_of_nonneg h1] at e1
 rw [Int.toNat_of_nonneg h3] at e2
 simp only
 rw [e1, e2]
theorem eqAd_eq (a b : Ad) : eqAd a b = decide (a = b) := by
 have e : (a = b) ↔ (a.v6 = b.v6 ∧ a.hi = b.hi ∧ a.lo = b.lo) := by
  cases a; cases b
  simp only [Ad.mk.injEq]
 rw [Bool.eq_iff_iff, decide_eq_true_iff, e]
 unfold eqAd
 simp [beqB, acmp]
theorem eqPf_eq (a b : Pf) : eqPf a b = decide (a = b) := by
 have e : (a = b) ↔ (a.ad.v6 = b.ad.v6 ∧ a.ad.hi = b.ad.hi ∧ a.ad.lo = b.ad.lo ∧ a.bits = b.bits) := by
  cases a with | mk a n => cases b with | mk b k =>
  cases a; cases b
  simp only [Pf.mk.injEq, Ad.mk.injEq, and_assoc]
 rw [Bool.eq_iff_iff, decide_eq_true_iff, e]
 unfold eqPf
 simp [beqB, acmp]
theorem prefix_Check_eq {p : Pf} (h : p.In) : zq7 p = some (chkP p, ()) := by
 unfold zq7 chkP
 rw [addr_Check_eq, bind_s]
 by_cases h1 : chkA p.ad = 0
 ·simp only [h1, decide_true, Bool.not_true, br_false, ne_eq, not_true, if_false]
  rw [prefix_Wide_eq, bind_s, br_ss, bind_s]
  by_cases h2 : p.bits < 0 ∨ p.bits > wid p.ad.v6
  ·rw [if_pos h2]
   have : (bif decide (p.bits < 0) then true else decide (p.bits > ((wid p.ad.v6 : Nat) : Int))) = true := by
    rcases h2 with h2 | h2 <;> simp [h2]
   rw [this, br_true]
  ·rw [if_neg h2]
   have : (bif decide (p.bits < 0) then true else decide (p.bits > ((wid p.ad.v6 : Nat) : Int))) = false := by
    simp only [not_or] at h2
    simp [h2.1]; omega
   rw [this, br_false, prefix_Cut_eq p.ad h.1.wf p.bits (by omega) (by omega), bind_s, eqAd_eq]
   by_cases h3 : cutA p.ad p.bits = p.ad <;> simp [h3, br_true, br_false]
 ·simp [h1, br_true]
end Go.Ma
namespace Go.Ma
open Go
end Go.Ma
namespace Go.Ma
open Go
noncomputable def R_HalvesOf_t (p : Pf) : Option (Pf × Pf × Unit) :=
 (R_Bits_t p.ad).bind fun y => req (Nat.ble y.1.size 1024) <| req (decide (0 ≤ p.bits) && decide (p.bits < 1000)) <| req (Nat.blt p.bits.toNat y.1.size) <|
 (R_AddrOf_t ⟨(y.1.data.toList.set p.bits.toNat 49).toArray⟩).bind fun z => some (⟨p.ad, p.bits + 1⟩, ⟨z.1, p.bits + 1⟩, ())
end Go.Ma
namespace Go.Ma
open Go
noncomputable def addr_groups_L3 (rec : (((Int × Unit) × (Unit) × (Unit) × (Int × Unit) × Unit) × ((Ad × Unit) × List ByteArray × Unit)) → Option (((Unit) × Unit) × (List ByteArray × Unit))) (x : (((Int × Unit) × (Unit) × (Unit) × (Int × Unit) × Unit) × ((Ad × Unit) × List ByteArray × Unit))) : Option (((Unit) × Unit) × (List ByteArray × Unit)) :=
 let v0 := x.1.1.1
 let v1 := x.1.2.2.2.1.1
 let v2 := x.2.1.1
 let v3 := x.2.2.1
 br (decide (v1 < v0))
  ((addr_group_t v2 v1).bind fun y1 =>
  (zq8 y1.1 16).bind fun y2 =>
  req (room (lenL v3) (lenL ([y2.1] : List ByteArray))) <|
  req (i64ok (v1 + 1)) <|
  rec (((v0, ()), (()), (()), (v1 + 1, ()), ()), ((v2, ()), v3 ++ ([y2.1] : List ByteArray), ())))
  (some (((()), ()), (v3, ())))
noncomputable def zq0 (a0 : Ad) (a1 : Int) (a2 : Int) : Option (ByteArray × Unit) :=
 (loopN addr_groups_L3 FUEL (((a2, ()), (()), (()), (a1, ()), ()), ((a0, ()), ([] : List ByteArray), ()))).bind fun y1 =>
 (strings_Join_t y1.2.1 (⟨#[58]⟩ : ByteArray)).bind fun y2 =>
 some (y2.1, ())
noncomputable def addr_Text_L4 (rec : (((Unit) × (Unit) × (Int × Unit) × Unit) × ((Ad × Unit) × List ByteArray × Unit)) → Option (((Unit) × Unit) × (List ByteArray × Unit))) (x : (((Unit) × (Unit) × (Int × Unit) × Unit) × ((Ad × Unit) × List ByteArray × Unit))) : Option (((Unit) × Unit) × (List ByteArray × Unit)) :=
 let v0 := x.1.2.2.1.1
 let v1 := x.2.1.1
 let v2 := x.2.2.1
 br (decide (v0 ≥ 0))
  (req (decide (0 ≤ v0)) <|
  (zq8 (aop .and .u64 (aop .shr .u64 v1.lo v0) 255) 10).bind fun y1 =>
  req (room (lenL v2) (lenL ([y1.1] : List ByteArray))) <|
  req (i64ok (v0 - 8)) <|
  rec (((()), (()), (v0 - 8, ()), ()), ((v1, ()), v2 ++ ([y1.1] : List ByteArray), ())))
  (some (((()), ()), (v2, ())))
noncomputable def addr_Text_t (a0 : Ad) : Option (ByteArray × Unit) :=
 br (!a0.v6)
  ((loopN addr_Text_L4 FUEL (((()), (()), (24, ()), ()), ((a0, ()), ([] : List ByteArray), ()))).bind fun y1 =>
  (strings_Join_t y1.2.1 (⟨#[46]⟩ : ByteArray)).bind fun y2 =>
  some (y2.1, ()))
  ((addr_longest_t a0).bind fun y1 =>
  br (decide (y1.2.1 = 0))
   ((zq0 a0 0 8).bind fun y2 =>
   some (y2.1, ()))
   ((zq0 a0 0 y1.1).bind fun y2 =>
   req (roomS (catS y2.1 (⟨#[58, 58]⟩ : ByteArray))) <|
   req (i64ok (y1.1 + y1.2.1)) <|
   (zq0 a0 (y1.1 + y1.2.1) 8).bind fun y3 =>
   req (roomS (catS (catS y2.1 (⟨#[58, 58]⟩ : ByteArray)) y3.1)) <|
   some (catS (catS y2.1 (⟨#[58, 58]⟩ : ByteArray)) y3.1, ())))
noncomputable def prefix_Text_t (a0 : Pf) : Option (ByteArray × Unit) :=
 (addr_Text_t a0.ad).bind fun y1 =>
 req (roomS (catS y1.1 (⟨#[47]⟩ : ByteArray))) <|
 (strconv_Itoa_t a0.bits).bind fun y2 =>
 req (roomS (catS (catS y1.1 (⟨#[47]⟩ : ByteArray)) y2.1)) <|
 some (catS (catS y1.1 (⟨#[47]⟩ : ByteArray)) y2.1, ())
noncomputable def prefix_Print_t (a0 : Pf) : Option (ByteArray × Int × Unit) :=
 (zq7 a0).bind fun y1 =>
 br (!decide (y1.1 = 0))
  (some ((ByteArray.empty), y1.1, ()))
  ((prefix_Text_t a0).bind fun y2 =>
  some (y2.1, 0, ()))
noncomputable def internal_stringslite_Cut_t (a0 : ByteArray) (a1 : ByteArray) : Option (ByteArray × ByteArray × Bool × Unit) :=
 (zq5 a0 a1).bind fun y1 =>
 br (decide (y1.1 ≥ 0))
  (req ((decide (0 ≤ y1.1)) && (decide (y1.1 ≤ lenS a0))) <|
  req (i64ok (y1.1 + (lenS a1))) <|
  req (((decide (0 ≤ y1.1 + (lenS a1))) && (decide (y1.1 + (lenS a1) ≤ lenS a0))) && (decide (lenS a0 ≤ lenS a0))) <|
  some (subS a0 0 y1.1, subS a0 (y1.1 + (lenS a1)) (lenS a0), true, ()))
  (some (a0, (ByteArray.empty), false, ()))
noncomputable def strings_Cut_t (a0 : ByteArray) (a1 : ByteArray) : Option (ByteArray × ByteArray × Bool × Unit) :=
 (internal_stringslite_Cut_t a0 a1).bind fun y1 =>
 some (y1.1, y1.2.1, y1.2.2.1, ())
noncomputable def addr_Parse_t (a0 : ByteArray) : Option (Ad × Int × Unit) :=
 (addr_told_t a0).bind fun y1 =>
 br (!y1.2.1)
  (some ((⟨false, 0, 0⟩ : Ad), 1, ()))
  (some (y1.1, 0, ()))
noncomputable def prefix_Parse_t (a0 : ByteArray) : Option (Pf × Int × Unit) :=
 (strings_Cut_t a0 (⟨#[47]⟩ : ByteArray)).bind fun y1 =>
 (addr_Parse_t y1.1).bind fun y2 =>
 (prefix_Digits_t y1.2.1).bind fun y3 =>
 (br (!y1.2.2.1)
   (some true)
   (some (!decide (y2.2.1 = 0)))).bind fun c4 =>
 (br c4
   (some true)
   (some (!y3.2.1))).bind fun c5 =>
 br c5
  (some ((⟨(⟨false, 0, 0⟩ : Ad), 0⟩ : Pf), 1, ()))
  ((zq7 (⟨y2.1, y3.1⟩ : Pf)).bind fun y6 =>
  br (!decide (y6.1 = 0))
   (some ((⟨(⟨false, 0, 0⟩ : Ad), 0⟩ : Pf), y6.1, ()))
   (some ((⟨y2.1, y3.1⟩ : Pf), 0, ())))
noncomputable def R_WholeOf_t (a0 : Pf) (a1 : Pf) : Option (Pf × Bool × Unit) :=
 br (decide (a0.bits = 0))
  (some ((⟨(⟨false, 0, 0⟩ : Ad), 0⟩ : Pf), false, ()))
  (req (i64ok (a0.bits - 1)) <|
  (R_CheckPrefix_t (⟨a0.ad, a0.bits - 1⟩ : Pf)).bind fun y1 =>
  br (!decide (y1.1 = 0))
   (some ((⟨(⟨false, 0, 0⟩ : Ad), 0⟩ : Pf), false, ()))
   ((R_HalvesOf_t (⟨a0.ad, a0.bits - 1⟩ : Pf)).bind fun y2 =>
   br (eqPf y2.1 a0)
    (some ((⟨a0.ad, a0.bits - 1⟩ : Pf), eqPf y2.2.1 a1, ()))
    (dup 1 <|
    some ((⟨a0.ad, a0.bits - 1⟩ : Pf), false, ()))))
noncomputable def law_prefixBegun_t : Option (Bool × Unit) :=
 (prefix_Parse_t (⟨#[49, 48, 46, 48, 46, 48, 46, 48, 47, 51, 48]⟩ : ByteArray)).bind fun y1 =>
 (law_net_t 167772162 31).bind fun y2 =>
 (prefix_Has_t y1.1 y2.1).bind fun y3 =>
 (prefix_Ends_t y1.1).bind fun y4 =>
 (prefix_Halves_t y1.1).bind fun y5 =>
 (prefix_Whole_t y5.1 y5.2.1).bind fun y6 =>
 (prefix_Print_t y5.2.1).bind fun y7 =>
 (br (decide (y1.2.1 = 0))
   (some (decide (y3.2.1 = 0)))
   (some false)).bind fun c8 =>
 (br c8
   (some (decide (y4.2.2.1 = 0)))
   (some false)).bind fun c9 =>
 (br c9
   (some (decide (y5.2.2.1 = 0)))
   (some false)).bind fun c10 =>
 (br c10
   (some (decide (y6.2.1 = 0)))
   (some false)).bind fun c11 =>
 (br c11
   (some (decide (y7.2.1 = 0)))
   (some false)).bind fun c12 =>
 (br c12
   ((law_net_t 1 31).bind fun y13 =>
   (zq7 y13.1).bind fun y14 =>
   some (decide (y14.1 = 4)))
   (some false)).bind fun c13 =>
 (br c13
   (some y3.1)
   (some false)).bind fun c14 =>
 (br c14
   ((law_v4_t 167772160).bind fun y15 =>
   some (eqAd y4.1 y15.1))
   (some false)).bind fun c15 =>
 (br c15
   ((law_v4_t 167772163).bind fun y16 =>
   some (eqAd y4.2.1 y16.1))
   (some false)).bind fun c16 =>
 (br c16
   (some (eqPf y6.1 y1.1))
   (some false)).bind fun c17 =>
 (br c17
   (some (strcmp .eql y7.1 (⟨#[49, 48, 46, 48, 46, 48, 46, 50, 47, 51, 49]⟩ : ByteArray)))
   (some false)).bind fun c18 =>
 some (c18, ())
noncomputable def law_PrefixTells_G (f0 : type_of% prefix_Print_t) (f1 : type_of% prefix_Parse_t) (f2 : type_of% prefix_Has_t) (f3 : type_of% prefix_Ends_t) (f4 : type_of% prefix_Halves_t) (f5 : type_of% prefix_Whole_t) (f6 : type_of% R_CheckPrefix_t) (f7 : type_of% R_PrefixText_t) (f8 : type_of% R_LastOf_t) (f9 : type_of% R_Bits_t) (f10 : type_of% R_HalvesOf_t) (f11 : type_of% R_WholeOf_t) (f12 : type_of% R_PrefixOf_t) (f13 : type_of% law_prefixBegun_t) (f14 : type_of% zq7) (f15 : type_of% R_HasPrefix_t) (a0 : Pf) (a1 : Pf) (a2 : ByteArray) : Option (Bool × Unit) :=
 (f0 a0).bind fun y1 =>
 (f1 a2).bind fun y2 =>
 (f2 a0 a1).bind fun y3 =>
 (f3 a0).bind fun y4 =>
 (f4 a0).bind fun y5 =>
 (f5 a0 a1).bind fun y6 =>
 (f6 a0).bind fun y7 =>
 (br (decide (y7.1 = 0))
   ((f6 a1).bind fun y8 =>
   some (((a2, ()), (()), (()), (y1.1, ()), (y1.2.1, ()), (()), (y2.2.1, ()), (y3.1, ()), (y3.2.1, ()), (()), (()), (y4.2.2.1, ()), (()), (()), (y5.2.2.1, ()), (()), (y6.2.1, ()), (y7.1, ()), (y8.1, ()), (y7.1, ()), ()), ((a0, ()), (a1, ()), (y2.1, ()), (y4.1, ()), (y4.2.1, ()), (y5.1, ()), (y5.2.1, ()), (y6.1, ()), ())))
   (some (((a2, ()), (()), (()), (y1.1, ()), (y1.2.1, ()), (()), (y2.2.1, ()), (y3.1, ()), (y3.2.1, ()), (()), (()), (y4.2.2.1, ()), (()), (()), (y5.2.2.1, ()), (()), (y6.2.1, ()), (y7.1, ()), (y7.1, ()), (y7.1, ()), ()), ((a0, ()), (a1, ()), (y2.1, ()), (y4.1, ()), (y4.2.1, ()), (y5.1, ()), (y5.2.1, ()), (y6.1, ()), ())))).bind fun y9 =>
 (br (decide (y9.1.2.2.2.2.2.2.2.2.2.2.2.2.2.2.2.2.2.1.1 = 0))
   ((f7 y9.2.1.1).bind fun y10 =>
   (f8 y9.2.1.1).bind fun y11 =>
   (f9 y9.2.1.1.ad).bind fun y12 =>
   (br (decide (y9.2.1.1.bits = lenS y12.1))
     (some (((y9.1.1.1, ()), (()), (()), (y9.1.2.2.2.1.1, ()), (y9.1.2.2.2.2.1.1, ()), (()), (y9.1.2.2.2.2.2.2.1.1, ()), (y9.1.2.2.2.2.2.2.2.1.1, ()), (y9.1.2.2.2.2.2.2.2.2.1.1, ()), (()), (()), (y9.1.2.2.2.2.2.2.2.2.2.2.2.1.1, ()), (()), (()), (y9.1.2.2.2.2.2.2.2.2.2.2.2.2.2.2.1.1, ()), (()), (y9.1.2.2.2.2.2.2.2.2.2.2.2.2.2.2.2.2.1.1, ()), (y9.1.2.2.2.2.2.2.2.2.2.2.2.2.2.2.2.2.2.1.1, ()), (y9.1.2.2.2.2.2.2.2.2.2.2.2.2.2.2.2.2.2.2.1.1, ()), (5, ()), (y10.1, ()), (()), (()), (()), (()), (()), ()), ((y9.2.1.1, ()), (y9.2.2.1.1, ()), (y9.2.2.2.1.1, ()), (y9.2.2.2.2.1.1, ()), (y9.2.2.2.2.2.1.1, ()), (y9.2.2.2.2.2.2.1.1, ()), (y9.2.2.2.2.2.2.2.1.1, ()), (y9.2.2.2.2.2.2.2.2.1.1, ()), (y9.2.1.1.ad, ()), (y11.1, ()), ((⟨(⟨false, 0, 0⟩ : Ad), 0⟩ : Pf), ()), ((⟨(⟨false, 0, 0⟩ : Ad), 0⟩ : Pf), ()), ((⟨(⟨false, 0, 0⟩ : Ad), 0⟩ : Pf), ()), ())))
     ((f10 y9.2.1.1).bind fun y13 =>
     some (((y9.1.1.1, ()), (()), (()), (y9.1.2.2.2.1.1, ()), (y9.1.2.2.2.2.1.1, ()), (()), (y9.1.2.2.2.2.2.2.1.1, ()), (y9.1.2.2.2.2.2.2.2.1.1, ()), (y9.1.2.2.2.2.2.2.2.2.1.1, ()), (()), (()), (y9.1.2.2.2.2.2.2.2.2.2.2.2.1.1, ()), (()), (()), (y9.1.2.2.2.2.2.2.2.2.2.2.2.2.2.2.1.1, ()), (()), (y9.1.2.2.2.2.2.2.2.2.2.2.2.2.2.2.2.2.1.1, ()), (y9.1.2.2.2.2.2.2.2.2.2.2.2.2.2.2.2.2.2.1.1, ()), (y9.1.2.2.2.2.2.2.2.2.2.2.2.2.2.2.2.2.2.2.1.1, ()), (y9.1.2.2.2.2.2.2.2.2.2.2.2.2.2.2.2.2.2.2.2.1.1, ()), (y10.1, ()), (()), (()), (()), (()), (()), ()), ((y9.2.1.1, ()), (y9.2.2.1.1, ()), (y9.2.2.2.1.1, ()), (y9.2.2.2.2.1.1, ()), (y9.2.2.2.2.2.1.1, ()), (y9.2.2.2.2.2.2.1.1, ()), (y9.2.2.2.2.2.2.2.1.1, ()), (y9.2.2.2.2.2.2.2.2.1.1, ()), (y9.2.1.1.ad, ()), (y11.1, ()), (y13.1, ()), (y13.2.1, ()), ((⟨(⟨false, 0, 0⟩ : Ad), 0⟩ : Pf), ()), ())))).bind fun y14 =>
   some (((y14.1.1.1, ()), (()), (()), (y14.1.2.2.2.1.1, ()), (y14.1.2.2.2.2.1.1, ()), (()), (y14.1.2.2.2.2.2.2.1.1, ()), (y14.1.2.2.2.2.2.2.2.1.1, ()), (y14.1.2.2.2.2.2.2.2.2.1.1, ()), (()), (()), (y14.1.2.2.2.2.2.2.2.2.2.2.2.1.1, ()), (()), (()), (y14.1.2.2.2.2.2.2.2.2.2.2.2.2.2.2.1.1, ()), (()), (y14.1.2.2.2.2.2.2.2.2.2.2.2.2.2.2.2.2.1.1, ()), (y14.1.2.2.2.2.2.2.2.2.2.2.2.2.2.2.2.2.2.1.1, ()), (y14.1.2.2.2.2.2.2.2.2.2.2.2.2.2.2.2.2.2.2.1.1, ()), (y14.1.2.2.2.2.2.2.2.2.2.2.2.2.2.2.2.2.2.2.2.1.1, ()), (y14.1.2.2.2.2.2.2.2.2.2.2.2.2.2.2.2.2.2.2.2.2.1.1, ()), (()), (()), (()), (()), (()), ()), ((y14.2.1.1, ()), (y14.2.2.1.1, ()), (y14.2.2.2.1.1, ()), (y14.2.2.2.2.1.1, ()), (y14.2.2.2.2.2.1.1, ()), (y14.2.2.2.2.2.2.1.1, ()), (y14.2.2.2.2.2.2.2.1.1, ()), (y14.2.2.2.2.2.2.2.2.1.1, ()), (y14.2.2.2.2.2.2.2.2.2.1.1, ()), (y14.2.2.2.2.2.2.2.2.2.2.1.1, ()), (y14.2.2.2.2.2.2.2.2.2.2.2.1.1, ()), (y14.2.2.2.2.2.2.2.2.2.2.2.2.1.1, ()), (y14.2.2.2.2.2.2.2.2.2.2.2.2.2.1.1, ()), ())))
   (some (((y9.1.1.1, ()), (()), (()), (y9.1.2.2.2.1.1, ()), (y9.1.2.2.2.2.1.1, ()), (()), (y9.1.2.2.2.2.2.2.1.1, ()), (y9.1.2.2.2.2.2.2.2.1.1, ()), (y9.1.2.2.2.2.2.2.2.2.1.1, ()), (()), (()), (y9.1.2.2.2.2.2.2.2.2.2.2.2.1.1, ()), (()), (()), (y9.1.2.2.2.2.2.2.2.2.2.2.2.2.2.2.1.1, ()), (()), (y9.1.2.2.2.2.2.2.2.2.2.2.2.2.2.2.2.2.1.1, ()), (y9.1.2.2.2.2.2.2.2.2.2.2.2.2.2.2.2.2.2.1.1, ()), (y9.1.2.2.2.2.2.2.2.2.2.2.2.2.2.2.2.2.2.2.1.1, ()), (y9.1.2.2.2.2.2.2.2.2.2.2.2.2.2.2.2.2.2.2.2.1.1, ()), ((ByteArray.empty), ()), (()), (()), (()), (()), (()), ()), ((y9.2.1.1, ()), (y9.2.2.1.1, ()), (y9.2.2.2.1.1, ()), (y9.2.2.2.2.1.1, ()), (y9.2.2.2.2.2.1.1, ()), (y9.2.2.2.2.2.2.1.1, ()), (y9.2.2.2.2.2.2.2.1.1, ()), (y9.2.2.2.2.2.2.2.2.1.1, ()), ((⟨false, 0, 0⟩ : Ad), ()), ((⟨false, 0, 0⟩ : Ad), ()), ((⟨(⟨false, 0, 0⟩ : Ad), 0⟩ : Pf), ()), ((⟨(⟨false, 0, 0⟩ : Ad), 0⟩ : Pf), ()), ((⟨(⟨false, 0, 0⟩ : Ad), 0⟩ : Pf), ()), ())))).bind fun y15 =>
 (br (decide (y15.1.2.2.2.2.2.2.2.2.2.2.2.2.2.2.2.2.2.2.1.1 = 0))
   ((f11 y15.2.1.1 y15.2.2.1.1).bind fun y16 =>
   (br (!y16.2.1)
     (some (((y15.1.1.1, ()), (()), (()), (y15.1.2.2.2.1.1, ()), (y15.1.2.2.2.2.1.1, ()), (()), (y15.1.2.2.2.2.2.2.1.1, ()), (y15.1.2.2.2.2.2.2.2.1.1, ()), (y15.1.2.2.2.2.2.2.2.2.1.1, ()), (()), (()), (y15.1.2.2.2.2.2.2.2.2.2.2.2.1.1, ()), (()), (()), (y15.1.2.2.2.2.2.2.2.2.2.2.2.2.2.2.1.1, ()), (()), (y15.1.2.2.2.2.2.2.2.2.2.2.2.2.2.2.2.2.1.1, ()), (y15.1.2.2.2.2.2.2.2.2.2.2.2.2.2.2.2.2.2.1.1, ()), (y15.1.2.2.2.2.2.2.2.2.2.2.2.2.2.2.2.2.2.2.1.1, ()), (y15.1.2.2.2.2.2.2.2.2.2.2.2.2.2.2.2.2.2.2.2.1.1, ()), (y15.1.2.2.2.2.2.2.2.2.2.2.2.2.2.2.2.2.2.2.2.2.1.1, ()), (()), (()), (()), (()), (()), (4, ()), ()), ((y15.2.1.1, ()), (y15.2.2.1.1, ()), (y15.2.2.2.1.1, ()), (y15.2.2.2.2.1.1, ()), (y15.2.2.2.2.2.1.1, ()), (y15.2.2.2.2.2.2.1.1, ()), (y15.2.2.2.2.2.2.2.1.1, ()), (y15.2.2.2.2.2.2.2.2.1.1, ()), (y15.2.2.2.2.2.2.2.2.2.1.1, ()), (y15.2.2.2.2.2.2.2.2.2.2.1.1, ()), (y15.2.2.2.2.2.2.2.2.2.2.2.1.1, ()), (y15.2.2.2.2.2.2.2.2.2.2.2.2.1.1, ()), ((⟨(⟨false, 0, 0⟩ : Ad), 0⟩ : Pf), ()), ())))
     (some (((y15.1.1.1, ()), (()), (()), (y15.1.2.2.2.1.1, ()), (y15.1.2.2.2.2.1.1, ()), (()), (y15.1.2.2.2.2.2.2.1.1, ()), (y15.1.2.2.2.2.2.2.2.1.1, ()), (y15.1.2.2.2.2.2.2.2.2.1.1, ()), (()), (()), (y15.1.2.2.2.2.2.2.2.2.2.2.2.1.1, ()), (()), (()), (y15.1.2.2.2.2.2.2.2.2.2.2.2.2.2.2.1.1, ()), (()), (y15.1.2.2.2.2.2.2.2.2.2.2.2.2.2.2.2.2.1.1, ()), (y15.1.2.2.2.2.2.2.2.2.2.2.2.2.2.2.2.2.2.1.1, ()), (y15.1.2.2.2.2.2.2.2.2.2.2.2.2.2.2.2.2.2.2.1.1, ()), (y15.1.2.2.2.2.2.2.2.2.2.2.2.2.2.2.2.2.2.2.2.1.1, ()), (y15.1.2.2.2.2.2.2.2.2.2.2.2.2.2.2.2.2.2.2.2.2.1.1, ()), (()), (()), (()), (()), (()), (y15.1.2.2.2.2.2.2.2.2.2.2.2.2.2.2.2.2.2.2.1.1, ()), ()), ((y15.2.1.1, ()), (y15.2.2.1.1, ()), (y15.2.2.2.1.1, ()), (y15.2.2.2.2.1.1, ()), (y15.2.2.2.2.2.1.1, ()), (y15.2.2.2.2.2.2.1.1, ()), (y15.2.2.2.2.2.2.2.1.1, ()), (y15.2.2.2.2.2.2.2.2.1.1, ()), (y15.2.2.2.2.2.2.2.2.2.1.1, ()), (y15.2.2.2.2.2.2.2.2.2.2.1.1, ()), (y15.2.2.2.2.2.2.2.2.2.2.2.1.1, ()), (y15.2.2.2.2.2.2.2.2.2.2.2.2.1.1, ()), (y16.1, ()), ())))).bind fun y17 =>
   some (((y17.1.1.1, ()), (()), (()), (y17.1.2.2.2.1.1, ()), (y17.1.2.2.2.2.1.1, ()), (()), (y17.1.2.2.2.2.2.2.1.1, ()), (y17.1.2.2.2.2.2.2.2.1.1, ()), (y17.1.2.2.2.2.2.2.2.2.1.1, ()), (()), (()), (y17.1.2.2.2.2.2.2.2.2.2.2.2.1.1, ()), (()), (()), (y17.1.2.2.2.2.2.2.2.2.2.2.2.2.2.2.1.1, ()), (()), (y17.1.2.2.2.2.2.2.2.2.2.2.2.2.2.2.2.2.1.1, ()), (y17.1.2.2.2.2.2.2.2.2.2.2.2.2.2.2.2.2.2.1.1, ()), (y17.1.2.2.2.2.2.2.2.2.2.2.2.2.2.2.2.2.2.2.1.1, ()), (y17.1.2.2.2.2.2.2.2.2.2.2.2.2.2.2.2.2.2.2.2.1.1, ()), (y17.1.2.2.2.2.2.2.2.2.2.2.2.2.2.2.2.2.2.2.2.2.1.1, ()), (()), (()), (()), (()), (()), (y17.1.2.2.2.2.2.2.2.2.2.2.2.2.2.2.2.2.2.2.2.2.2.2.2.2.2.2.1.1, ()), ()), ((y17.2.1.1, ()), (y17.2.2.1.1, ()), (y17.2.2.2.1.1, ()), (y17.2.2.2.2.1.1, ()), (y17.2.2.2.2.2.1.1, ()), (y17.2.2.2.2.2.2.1.1, ()), (y17.2.2.2.2.2.2.2.1.1, ()), (y17.2.2.2.2.2.2.2.2.1.1, ()), (y17.2.2.2.2.2.2.2.2.2.1.1, ()), (y17.2.2.2.2.2.2.2.2.2.2.1.1, ()), (y17.2.2.2.2.2.2.2.2.2.2.2.1.1, ()), (y17.2.2.2.2.2.2.2.2.2.2.2.2.1.1, ()), (y17.2.2.2.2.2.2.2.2.2.2.2.2.2.1.1, ()), ())))
   (some (((y15.1.1.1, ()), (()), (()), (y15.1.2.2.2.1.1, ()), (y15.1.2.2.2.2.1.1, ()), (()), (y15.1.2.2.2.2.2.2.1.1, ()), (y15.1.2.2.2.2.2.2.2.1.1, ()), (y15.1.2.2.2.2.2.2.2.2.1.1, ()), (()), (()), (y15.1.2.2.2.2.2.2.2.2.2.2.2.1.1, ()), (()), (()), (y15.1.2.2.2.2.2.2.2.2.2.2.2.2.2.2.1.1, ()), (()), (y15.1.2.2.2.2.2.2.2.2.2.2.2.2.2.2.2.2.1.1, ()), (y15.1.2.2.2.2.2.2.2.2.2.2.2.2.2.2.2.2.2.1.1, ()), (y15.1.2.2.2.2.2.2.2.2.2.2.2.2.2.2.2.2.2.2.1.1, ()), (y15.1.2.2.2.2.2.2.2.2.2.2.2.2.2.2.2.2.2.2.2.1.1, ()), (y15.1.2.2.2.2.2.2.2.2.2.2.2.2.2.2.2.2.2.2.2.2.1.1, ()), (()), (()), (()), (()), (()), (y15.1.2.2.2.2.2.2.2.2.2.2.2.2.2.2.2.2.2.2.1.1, ()), ()), ((y15.2.1.1, ()), (y15.2.2.1.1, ()), (y15.2.2.2.1.1, ()), (y15.2.2.2.2.1.1, ()), (y15.2.2.2.2.2.1.1, ()), (y15.2.2.2.2.2.2.1.1, ()), (y15.2.2.2.2.2.2.2.1.1, ()), (y15.2.2.2.2.2.2.2.2.1.1, ()), (y15.2.2.2.2.2.2.2.2.2.1.1, ()), (y15.2.2.2.2.2.2.2.2.2.2.1.1, ()), (y15.2.2.2.2.2.2.2.2.2.2.2.1.1, ()), (y15.2.2.2.2.2.2.2.2.2.2.2.2.1.1, ()), (y15.2.2.2.2.2.2.2.2.2.2.2.2.2.1.1, ()), ())))).bind fun y18 =>
 (f12 y18.1.1.1).bind fun y19 =>
 f13.bind fun y20 =>
 (br y20.1
   ((f14 y18.2.1.1).bind fun y21 =>
   some (decide (y21.1 = y18.1.2.2.2.2.2.2.2.2.2.2.2.2.2.2.2.2.2.1.1)))
   (some false)).bind fun c21 =>
 (br c21
   (some (decide (y18.1.2.2.2.2.1.1 = y18.1.2.2.2.2.2.2.2.2.2.2.2.2.2.2.2.2.2.1.1)))
   (some false)).bind fun c22 =>
 (br c22
   (some (strcmp .eql y18.1.2.2.2.1.1 y18.1.2.2.2.2.2.2.2.2.2.2.2.2.2.2.2.2.2.2.2.2.1.1))
   (some false)).bind fun c23 =>
 (br c23
   (some (decide (y18.1.2.2.2.2.2.2.1.1 = y19.2.1)))
   (some false)).bind fun c24 =>
 (br c24
   (some (eqPf y18.2.2.2.1.1 y19.1))
   (some false)).bind fun c25 =>
 (br c25
   (some (decide (y18.1.2.2.2.2.2.2.2.2.1.1 = y18.1.2.2.2.2.2.2.2.2.2.2.2.2.2.2.2.2.2.2.1.1)))
   (some false)).bind fun c26 =>
 (br c26
   (br (decide (y18.1.2.2.2.2.2.2.2.2.2.2.2.2.2.2.2.2.2.2.1.1 = 0))
    ((f15 y18.2.1.1 y18.2.2.1.1).bind fun y27 =>
    some (beqB y18.1.2.2.2.2.2.2.2.1.1 y27.1))
    (some (beqB y18.1.2.2.2.2.2.2.2.1.1 false)))
   (some false)).bind fun c27 =>
 (br c27
   (some (decide (y18.1.2.2.2.2.2.2.2.2.2.2.2.1.1 = y18.1.2.2.2.2.2.2.2.2.2.2.2.2.2.2.2.2.2.1.1)))
   (some false)).bind fun c28 =>
 (br c28
   (some (eqAd y18.2.2.2.2.1.1 y18.2.2.2.2.2.2.2.2.2.1.1))
   (some false)).bind fun c29 =>
 (br c29
   (some (eqAd y18.2.2.2.2.2.1.1 y18.2.2.2.2.2.2.2.2.2.2.1.1))
   (some false)).bind fun c30 =>
 (br c30
   (some (decide (y18.1.2.2.2.2.2.2.2.2.2.2.2.2.2.2.1.1 = y18.1.2.2.2.2.2.2.2.2.2.2.2.2.2.2.2.2.2.2.2.1.1)))
   (some false)).bind fun c31 =>
 (br c31
   (some (eqPf y18.2.2.2.2.2.2.1.1 y18.2.2.2.2.2.2.2.2.2.2.2.1.1))
   (some false)).bind fun c32 =>
 (br c32
   (some (eqPf y18.2.2.2.2.2.2.2.1.1 y18.2.2.2.2.2.2.2.2.2.2.2.2.1.1))
   (some false)).bind fun c33 =>
 (br c33
   (some (decide (y18.1.2.2.2.2.2.2.2.2.2.2.2.2.2.2.2.2.1.1 = y18.1.2.2.2.2.2.2.2.2.2.2.2.2.2.2.2.2.2.2.2.2.2.2.2.2.2.2.1.1)))
   (some false)).bind fun c34 =>
 (br c34
   (some (eqPf y18.2.2.2.2.2.2.2.2.1.1 y18.2.2.2.2.2.2.2.2.2.2.2.2.2.1.1))
   (some false)).bind fun c35 =>
 some (c35, ())
noncomputable def law_PrefixTells_t (a0 : Pf) (a1 : Pf) (a2 : ByteArray) : Option (Bool × Unit) := law_PrefixTells_G prefix_Print_t prefix_Parse_t prefix_Has_t prefix_Ends_t prefix_Halves_t prefix_Whole_t R_CheckPrefix_t R_PrefixText_t R_LastOf_t R_Bits_t R_HalvesOf_t R_WholeOf_t R_PrefixOf_t law_prefixBegun_t zq7 R_HasPrefix_t a0 a1 a2
end Go.Ma
namespace Go.Ma
open Go
theorem shr_nat (n k : Nat) (hk : k ≤ 64) : aop .shr .u64 (n : Int) (k : Int) = ((n / 2 ^ k : Nat) : Int) := by
 simp only [aop, Int.toNat_natCast, IntKind.bits, Nat.min_eq_left hk]
 rw [show ((2 : Int) ^ k) = ((2 ^ k : Nat) : Int) by push_cast; rfl, Int.fdiv_eq_ediv_of_nonneg _ (Int.natCast_nonneg _)]
 rfl
theorem ofInt_nat (n : Nat) (h : n < 18446744073709551616) : (BitVec.ofInt 64 (n : Int)).toNat = n := by
 rw [BitVec.ofInt_natCast, BitVec.toNat_ofNat]
 exact Nat.mod_eq_of_lt (by simpa using h)
theorem and_low (n k : Nat) (hn : n < 18446744073709551616) (hk : k ≤ 63) : aop .and .u64 (n : Int) ((2 ^ k - 1 : Nat) : Int) = ((n % 2 ^ k : Nat) : Int) := by
 have hp : 2 ^ k ≤ 2 ^ 63 := Nat.pow_le_pow_right (by omega) hk
 show IntKind.u64.wrap (((BitVec.ofInt 64 (n : Int) &&& BitVec.ofInt 64 ((2 ^ k - 1 : Nat) : Int)).toNat : Nat) : Int) = _
 rw [BitVec.toNat_and, ofInt_nat n hn, ofInt_nat _ (by omega), Nat.and_two_pow_sub_one_eq_mod, wrap_u64 (by omega)]
 have := Nat.mod_le n (2 ^ k)
 omega
theorem or_low (m u k : Nat) (hu : u < 2 ^ k) (h : 2 ^ k * m + u < 18446744073709551616) : aop .or .u64 ((2 ^ k * m : Nat) : Int) (u : Int) = ((2 ^ k * m + u : Nat) : Int) := by
 show IntKind.u64.wrap (((BitVec.ofInt 64 ((2 ^ k * m : Nat) : Int) ||| BitVec.ofInt 64 (u : Int)).toNat : Nat) : Int) = _
 rw [BitVec.toNat_or, ofInt_nat _ (by omega), ofInt_nat _ (by omega), ← Nat.two_pow_add_eq_or_of_lt hu, wrap_u64 (by omega) (by omega)]
theorem shl_nat (n k : Nat) (hk : k ≤ 64) (h : 2 ^ k * n < 18446744073709551616) : aop .shl .u64 (n : Int) (k : Int) = ((2 ^ k * n : Nat) : Int) := by
 simp only [aop, Int.toNat_natCast, IntKind.bits, Nat.min_eq_left hk]
 rw [show ((2 : Int) ^ k) = ((2 ^ k : Nat) : Int) by push_cast; rfl, ← Int.natCast_mul, Nat.mul_comm, wrap_u64 (by omega) (by omega)]
def gI (a : Ad) (i : Nat) : Nat := if i < 4 then a.hi.toNat / 2 ^ (48 - 16 * i) % 65536 else a.lo.toNat / 2 ^ (112 - 16 * i) % 65536
theorem gI_lt (a : Ad) (i : Nat) : gI a i < 65536 := by
 unfold gI
 split <;> exact Nat.mod_lt _ (by omega)
theorem addr_group_eq {a : Ad} (h : a.wf) {i : Nat} (hi : i < 8) : addr_group_t a i = some ((gI a i : Int), ()) := by
 obtain ⟨h1, h2, h3, h4⟩ := h
 unfold addr_group_t gI
 have m1 : ∀ n : Nat, n < 18446744073709551616 → aop .and .u64 (n : Int) 65535 = ((n % 65536 : Nat) : Int) := fun n hn => and_low n 16 hn (by omega)
 have hq : ∀ (n k : Nat), n < 18446744073709551616 → n / 2 ^ k < 18446744073709551616 := fun n k hn => Nat.lt_of_le_of_lt (Nat.div_le_self _ _) hn
 by_cases hlt : i < 4
 ·rw [decide_eq_true (show (i : Int) < 4 by omega), br_true, req_of (i64ok_of (by omega) (by omega)), req_of (i64ok_of (by omega) (by omega)), req_of (by simp; omega), if_pos hlt]
  rw [show (48 : Int) - 16 * (i : Int) = ((48 - 16 * i : Nat) : Int) by omega]
  obtain ⟨n, hn⟩ := Int.eq_ofNat_of_zero_le h1
  rw [hn, shr_nat _ _ (by omega), m1 _ (hq _ _ (by omega))]
  rfl
 ·rw [decide_eq_false (show ¬ (i : Int) < 4 by omega), br_false, req_of (i64ok_of (by omega) (by omega)), req_of (i64ok_of (by omega) (by omega)), req_of (by simp; omega), if_neg hlt]
  rw [show (112 : Int) - 16 * (i : Int) = ((112 - 16 * i : Nat) : Int) by omega]
  obtain ⟨n, hn⟩ := Int.eq_ofNat_of_zero_le h3
  rw [hn, shr_nat _ _ (by omega), m1 _ (hq _ _ (by omega))]
  rfl
theorem row_loop {a : Ad} (h : a.wf) {f : Nat} : ∀ (N n : Nat), 8 - (f + n) < N → f + n ≤ 8 → (∀ j, j < n → gI a (f + j) = 0) →
  ∃ m, n ≤ m ∧ f + m ≤ 8 ∧ (∀ j, j < m → gI a (f + j) = 0) ∧ (f + m < 8 → gI a (f + m) ≠ 0) ∧ loopN addr_row_L2 N ((((f : Int), ()), (), ((n : Int), ()), ()), ((a, ()), ())) = some ((((m : Int), ()), ()), ())
 | 0, _, h, _, _ => by omega
 | N + 1, n, hN, h8, hz => by
  have hstep : loopN addr_row_L2 (N + 1) ((((f : Int), ()), (), ((n : Int), ()), ()), ((a, ()), ())) = addr_row_L2 (loopN addr_row_L2 N) ((((f : Int), ()), (), ((n : Int), ()), ()), ((a, ()), ())) := zq6 ..
  by_cases hlt : f + n < 8
  ·by_cases hg : gI a (f + n) = 0
   ·obtain ⟨m, m1, m2, m3, m4, m5⟩ := row_loop h (f := f) N (n + 1) (by omega) (by omega) (fun j hj => by
     rcases Nat.lt_or_eq_of_le (Nat.le_of_lt_succ hj) with h1 | h1
     ·exact hz j h1
     ·rw [h1]; exact hg)
    refine ⟨m, by omega, m2, m3, m4, ?_⟩
    rw [hstep]
    simp only [addr_row_L2]
    rw [req_of (i64ok_of (by omega) (by omega)), decide_eq_true (show (f : Int) + (n : Int) < 8 by omega), br_true, req_of (i64ok_of (by omega) (by omega)), show (f : Int) + (n : Int) = ((f + n : Nat) : Int) by omega, addr_group_eq h hlt, bind_s, hg]
    simp only [bind_s]
    rw [decide_eq_true (by rfl), br_true, show (n : Int) + 1 = ((n + 1 : Nat) : Int) by omega, req_of (i64ok_of (by omega) (by omega)), m5]
   ·refine ⟨n, Nat.le_refl _, h8, hz, fun _ => hg, ?_⟩
    rw [hstep]
    simp only [addr_row_L2]
    rw [req_of (i64ok_of (by omega) (by omega)), decide_eq_true (show (f : Int) + (n : Int) < 8 by omega), br_true, req_of (i64ok_of (by omega) (by omega)), show (f : Int) + (n : Int) = ((f + n : Nat) : Int) by omega, addr_group_eq h hlt, bind_s]
    simp only [bind_s]
    rw [decide_eq_false (by omega), br_false]
  ·refine ⟨n, Nat.le_refl _, h8, hz, fun h => absurd h hlt, ?_⟩
   rw [hstep]
   simp only [addr_row_L2]
   rw [req_of (i64ok_of (by omega) (by omega)), decide_eq_false (show ¬ (f : Int) + (n : Int) < 8 by omega), br_false, bind_s, br_false]
theorem row_eq {a : Ad} (h : a.wf) {f : Nat} (hf : f ≤ 8) : ∃ m : Nat, f + m ≤ 8 ∧ (∀ j, j < m → gI a (f + j) = 0) ∧ (f + m < 8 → gI a (f + m) ≠ 0) ∧ addr_row_t a f = some ((m : Int), ()) := by
 obtain ⟨m, _, m2, m3, m4, m5⟩ := row_loop h (f := f) FUEL 0 (fuel_gt (by omega)) (by omega) (fun j hj => by omega)
 refine ⟨m, m2, m3, m4, ?_⟩
 unfold addr_row_t
 have m5 : loopN addr_row_L2 FUEL ((((f : Int), ()), (), ((0 : Int), ()), ()), ((a, ()), ())) = some ((((m : Int), ()), ()), ()) := m5
 rw [m5]
 rfl
def Row0 (a : Ad) (at_ many : Nat) : Prop := at_ + many ≤ 8 ∧ ∀ j, j < many → gI a (at_ + j) = 0
theorem longest_loop {a : Ad} (h : a.wf) : ∀ (N i x m : Nat), 8 - i < N → i ≤ 8 → 1 ≤ m → (2 ≤ m → Row0 a x m) →
  ∃ x' m' : Nat, 1 ≤ m' ∧ (2 ≤ m' → Row0 a x' m') ∧ loopN zq1 N (((), ((x : Int), ()), ((m : Int), ()), ((i : Int), ()), ()), ((a, ()), ())) = some ((((x' : Int), ()), ((m' : Int), ()), ()), ())
 | 0, _, _, _, h, _, _, _ => by omega
 | N + 1, i, x, m, hN, h8, hm, hr => by
  have hstep : loopN zq1 (N + 1) (((), ((x : Int), ()), ((m : Int), ()), ((i : Int), ()), ()), ((a, ()), ())) = zq1 (loopN zq1 N) (((), ((x : Int), ()), ((m : Int), ()), ((i : Int), ()), ()), ((a, ()), ())) := zq6 ..
  by_cases hlt : i < 8
  ·obtain ⟨n, n1, n2, n3, n4⟩ := row_eq h (f := i) h8
   by_cases hg : m < n
   ·obtain ⟨x', m', q1, q2, q3⟩ := longest_loop h N (i + 1) i n (by omega) (by omega) (by omega) (fun _ => ⟨n1, n2⟩)
    refine ⟨x', m', q1, q2, ?_⟩
    rw [hstep]
    simp only [zq1]
    rw [decide_eq_true (show (i : Int) < 8 by omega), br_true, n4, bind_s]
    simp only []
    rw [decide_eq_true (show (n : Int) > (m : Int) by omega), br_true, show (i : Int) + 1 = ((i + 1 : Nat) : Int) by omega, req_of (i64ok_of (by omega) (by omega)), q3]
   ·obtain ⟨x', m', q1, q2, q3⟩ := longest_loop h N (i + 1) x m (by omega) (by omega) hm hr
    refine ⟨x', m', q1, q2, ?_⟩
    rw [hstep]
    simp only [zq1]
    rw [decide_eq_true (show (i : Int) < 8 by omega), br_true, n4, bind_s]
    simp only []
    rw [decide_eq_false (show ¬ (n : Int) > (m : Int) by omega), br_false, show (i : Int) + 1 = ((i + 1 : Nat) : Int) by omega, req_of (i64ok_of (by omega) (by omega)), q3]
  ·refine ⟨x, m, hm, hr, ?_⟩
   rw [hstep]
   simp only [zq1]
   rw [decide_eq_false (show ¬ (i : Int) < 8 by omega), br_false]
theorem longest_eq {a : Ad} (h : a.wf) : addr_longest_t a = some (0, 0, ()) ∨ ∃ x m : Nat, 2 ≤ m ∧ Row0 a x m ∧ addr_longest_t a = some ((x : Int), (m : Int), ()) := by
 obtain ⟨x, m, q1, q2, q3⟩ := longest_loop h FUEL 0 0 1 (fuel_gt (by omega)) (by omega) (by omega) (fun h => by omega)
 have q3 : loopN zq1 FUEL (((), ((0 : Int), ()), ((1 : Int), ()), ((0 : Int), ()), ()), ((a, ()), ())) = some ((((x : Int), ()), ((m : Int), ()), ()), ()) := q3
 unfold addr_longest_t
 rw [q3, bind_s]
 simp only []
 by_cases h2 : m < 2
 ·left
  rw [decide_eq_true (show (m : Int) < 2 by omega), br_true]
 ·right
  refine ⟨x, m, by omega, q2 (by omega), ?_⟩
  rw [decide_eq_false (show ¬ (m : Int) < 2 by omega), br_false]
def hexA (n : Nat) : ByteArray := ⟨(hex4 n).toArray⟩
def joinG (gs : List Nat) : List UInt8 := Lib.join (gs.map hex4) [58]
theorem join_len (c : UInt8) (k : Nat) : ∀ xs : List (List UInt8), (∀ x ∈ xs, x.length ≤ k) → (Lib.join xs [c]).length ≤ (k + 1) * xs.length
 | [], _ => by simp [Lib.join_nil]
 | [x], h => by
  rw [Lib.join_one]
  have := h x (by simp)
  simp
  omega
 | x :: y :: r, h => by
  have h1 := h x (by simp)
  have h2 := join_len c k (y :: r) (fun z hz => h z (by simp [hz]))
  rw [join_cons2]
  simp only [List.length_append, List.length_cons] at h2 ⊢
  rw [Nat.mul_add (k + 1) (r.length + 1) 1]
  omega
theorem joinG_len {gs : List Nat} (h : ∀ g ∈ gs, g < 65536) : (joinG gs).length ≤ 5 * gs.length := by
 have := join_len 58 4 (gs.map hex4) fun x hx => by
  obtain ⟨g, hg, rfl⟩ := List.mem_map.1 hx
  exact (hex4_read g (h g hg)).2.2.1
 rwa [List.length_map] at this
theorem Join_eq {l : List ByteArray} {c : UInt8} (h1 : l.length ≤ 1024) (h2 : (Lib.join (l.map (·.data.toList)) [c]).length ≤ 1099511627776) : strings_Join_t l ⟨#[c]⟩ = some (⟨(Lib.join (l.map (·.data.toList)) [c]).toArray⟩, ()) := by
 unfold strings_Join_t
 rw [req_of]
 rw [Bool.and_eq_true]
 exact ⟨Nat.ble_eq_true_of_le h1, Nat.ble_eq_true_of_le h2⟩
theorem hexA_fmt {g : Nat} (h : g < 65536) : zq8 (g : Int) 16 = some (hexA g, ()) := by
 unfold zq8
 rw [if_pos rfl, req_of (by simp; omega)]
 rfl
theorem groups_loop {a : Ad} (h : a.wf) {t : Nat} (ht : t ≤ 8) : ∀ (N i : Nat) (out : List ByteArray), t - i < N → i ≤ t → out.length ≤ i →
  loopN addr_groups_L3 N ((((t : Int), ()), (), (), ((i : Int), ()), ()), ((a, ()), out, ())) = some (((), ()), (out ++ (List.range' i (t - i)).map (fun j => hexA (gI a j)), ()))
 | 0, _, _, h, _, _ => by omega
 | N + 1, i, out, hN, hi, ho => by
  rw [zq6]
  simp only [addr_groups_L3]
  by_cases hlt : i < t
  ·rw [decide_eq_true (show (i : Int) < (t : Int) by omega), br_true, addr_group_eq h (by omega), bind_s]
   simp only []
   rw [hexA_fmt (gI_lt a i), bind_s, req_of (room_of (lenL_nonneg _) (lenL_nonneg _) (by unfold lenL; simp only [List.length_cons, List.length_nil]; omega)), show (i : Int) + 1 = ((i + 1 : Nat) : Int) by omega, req_of (i64ok_of (by omega) (by omega))]
   rw [groups_loop h ht N (i + 1) _ (by omega) (by omega) (by simp; omega), show t - i = (t - (i + 1)) + 1 by omega, List.range'_succ, List.map_cons, List.append_assoc]
   rfl
  ·have : i = t := by omega
   subst this
   rw [decide_eq_false (show ¬ (i : Int) < (i : Int) by omega), br_false, Nat.sub_self]
   simp
theorem groups_eq {a : Ad} (h : a.wf) {f t : Nat} (ht : t ≤ 8) (hf : f ≤ t) : zq0 a f t = some (⟨(joinG ((List.range' f (t - f)).map (gI a))).toArray⟩, ()) := by
 unfold zq0
 rw [groups_loop h ht FUEL f [] (fuel_gt (by omega)) hf (by simp), bind_s]
 have e : (((List.range' f (t - f)).map (fun j => hexA (gI a j))).map (·.data.toList)) = ((List.range' f (t - f)).map (gI a)).map hex4 := by
  rw [List.map_map, List.map_map]
  rfl
 have hl := joinG_len (gs := (List.range' f (t - f)).map (gI a)) (fun g hg => by
  obtain ⟨i, _, rfl⟩ := List.mem_map.1 hg
  exact gI_lt a i)
 unfold joinG at hl
 rw [List.nil_append, Join_eq (by simp; omega) (by rw [e]; simp at hl ⊢; omega), e, bind_s]
 rfl
def gsA (a : Ad) : List Nat := (List.range 8).map (gI a)
def Six (a : Ad) (T : List UInt8) : Prop := T = joinG (gsA a) ∨ ∃ x m : Nat, 2 ≤ m ∧ Row0 a x m ∧ T = joinG ((gsA a).take x) ++ [58, 58] ++ joinG ((gsA a).drop (x + m))
theorem gsA_take (a : Ad) {x : Nat} (h : x ≤ 8) : (gsA a).take x = (List.range' 0 (x - 0)).map (gI a) := by
 unfold gsA
 rw [← List.map_take, List.range_eq_range', Nat.sub_zero]
 congr 1
 have := List.range'_append_1 (s := 0) (m := x) (n := 8 - x)
 rw [Nat.zero_add, show x + (8 - x) = 8 by omega] at this
 rw [← this, List.take_left' (by simp)]
theorem gsA_drop (a : Ad) {x : Nat} (h : x ≤ 8) : (gsA a).drop x = (List.range' x (8 - x)).map (gI a) := by
 unfold gsA
 rw [← List.map_drop, List.range_eq_range', List.drop_range']
 simp
theorem gsA_lt (a : Ad) : ∀ g ∈ gsA a, g < 65536 := fun g hg => by
 obtain ⟨i, _, rfl⟩ := List.mem_map.1 hg
 exact gI_lt a i
theorem cat_lists (A B : List UInt8) : catS ⟨A.toArray⟩ ⟨B.toArray⟩ = (⟨(A ++ B).toArray⟩ : ByteArray) := by
 apply ByteArray.ext
 simp [catS]
theorem room_list (A : List UInt8) (hA : A.length ≤ 9223372036854775807) : roomS ⟨A.toArray⟩ = true := by
 unfold roomS
 exact Nat.ble_eq_true_of_le (by simpa [ByteArray.size] using hA)
noncomputable def textOf6 (a : Ad) (y : Int × Int × Unit) : Option (ByteArray × Unit) :=
 br (decide (y.2.1 = 0))
   ((zq0 a 0 8).bind fun y2 =>
   some (y2.1, ()))
   ((zq0 a 0 y.1).bind fun y2 =>
   req (roomS (catS y2.1 (⟨#[58, 58]⟩ : ByteArray))) <|
   req (i64ok (y.1 + y.2.1)) <|
   (zq0 a (y.1 + y.2.1) 8).bind fun y3 =>
   req (roomS (catS (catS y2.1 (⟨#[58, 58]⟩ : ByteArray)) y3.1)) <|
   some (catS (catS y2.1 (⟨#[58, 58]⟩ : ByteArray)) y3.1, ()))
theorem text_of6 {a : Ad} (hv : a.v6 = true) : addr_Text_t a = (addr_longest_t a).bind (textOf6 a) := by
 unfold addr_Text_t textOf6
 rw [hv, Bool.not_true, br_false]
theorem textOf6_none {a : Ad} (h : a.wf) : textOf6 a (0, 0, ()) = some (⟨(joinG (gsA a)).toArray⟩, ()) := by
 have := groups_eq h (f := 0) (t := 8) (by omega) (by omega)
 rw [← gsA_take a (Nat.le_refl 8), show (gsA a).take 8 = gsA a from List.take_of_length_le (by simp [gsA]), Int.natCast_zero, show ((8 : Nat) : Int) = 8 from rfl] at this
 unfold textOf6
 rw [show decide ((0, 0, ()).2.1 = (0 : Int)) = true from rfl, br_true, this, bind_s]
theorem textOf6_some {a : Ad} (h : a.wf) {x m : Nat} (m1 : 2 ≤ m) (m2 : Row0 a x m) : textOf6 a ((x : Int), (m : Int), ()) = some (⟨(joinG ((gsA a).take x) ++ [58, 58] ++ joinG ((gsA a).drop (x + m))).toArray⟩, ()) := by
 obtain ⟨r1, r2⟩ := m2
 have g1 : zq0 a 0 (x : Int) = some (⟨(joinG ((gsA a).take x)).toArray⟩, ()) := by
  have := groups_eq h (f := 0) (t := x) (by omega) (by omega)
  rw [← gsA_take a (by omega), Int.natCast_zero] at this
  exact this
 have g2 : zq0 a ((x : Int) + (m : Int)) 8 = some (⟨(joinG ((gsA a).drop (x + m))).toArray⟩, ()) := by
  have := groups_eq h (f := x + m) (t := 8) (by omega) r1
  rw [← gsA_drop a r1, show ((8 : Nat) : Int) = 8 from rfl] at this
  rw [show (x : Int) + (m : Int) = ((x + m : Nat) : Int) by omega]
  exact this
 have l1 := joinG_len (gs := (gsA a).take x) (fun g hg => gsA_lt a g (List.mem_of_mem_take hg))
 have l2 := joinG_len (gs := (gsA a).drop (x + m)) (fun g hg => gsA_lt a g (List.mem_of_mem_drop hg))
 have l3 : ((gsA a).take x).length ≤ 8 := by simp [gsA]; omega
 have l4 : ((gsA a).drop (x + m)).length ≤ 8 := by simp [gsA]
 unfold textOf6
 generalize joinG ((gsA a).take x) = A at g1 l1 ⊢
 generalize joinG ((gsA a).drop (x + m)) = B at g2 l2 ⊢
 rw [show decide (((x : Int), (m : Int), ()).2.1 = (0 : Int)) = false from decide_eq_false (by show ¬ (m : Int) = 0; omega), br_false]
 show (zq0 a 0 (x : Int)).bind _ = _
 rw [g1, bind_s, show (⟨#[58, 58]⟩ : ByteArray) = ⟨([58, 58] : List UInt8).toArray⟩ from rfl, cat_lists, req_of (room_list _ (by simp; omega)), req_of (i64ok_of (by show (-9223372036854775808 : Int) ≤ (x : Int) + (m : Int); omega) (by show (x : Int) + (m : Int) < 9223372036854775808; omega))]
 show (zq0 a ((x : Int) + (m : Int)) 8).bind _ = _
 rw [g2, bind_s, cat_lists, req_of (room_list _ (by simp; omega))]
theorem text6 {a : Ad} (h : a.wf) (hv : a.v6 = true) : ∃ T : List UInt8, addr_Text_t a = some (⟨T.toArray⟩, ()) ∧ Six a T := by
 rw [text_of6 hv]
 rcases longest_eq h with h1 | ⟨x, m, m1, m2, m3⟩
 ·refine ⟨joinG (gsA a), ?_, .inl rfl⟩
  rw [h1, bind_s, textOf6_none h]
 ·refine ⟨joinG ((gsA a).take x) ++ [58, 58] ++ joinG ((gsA a).drop (x + m)), ?_, .inr ⟨x, m, m1, m2, rfl⟩⟩
  rw [m3, bind_s, textOf6_some h m1 m2]
def text4 (n : Nat) : List UInt8 := Lib.join [dec3 (n / 2 ^ 24 % 256), dec3 (n / 2 ^ 16 % 256), dec3 (n / 2 ^ 8 % 256), dec3 (n % 256)] [46]
theorem dec_fmt {n : Nat} (h : n < 256) : zq8 (n : Int) 10 = some (⟨(dec3 n).toArray⟩, ()) := by
 unfold zq8
 rw [if_neg (by decide), req_of (by simp; omega)]
 rfl
theorem text_v4 {a : Ad} (h : a.wf) (hv : a.v6 = false) : addr_Text_t a = some (⟨(text4 a.lo.toNat).toArray⟩, ()) := by
 obtain ⟨h1, h2, h3, h4⟩ := h
 obtain ⟨n, hn⟩ := Int.eq_ofNat_of_zero_le h3
 have hn2 : n < 18446744073709551616 := by omega
 unfold addr_Text_t
 rw [hv, Bool.not_false, br_true]
 have hb : ∀ k : Nat, k ≤ 64 → zq8 (aop .and .u64 (aop .shr .u64 a.lo (k : Int)) 255) 10 = some (⟨(dec3 (n / 2 ^ k % 256)).toArray⟩, ()) := fun k hk => by
  rw [hn, shr_nat _ _ hk]
  have := and_low (n / 2 ^ k) 8 (Nat.lt_of_le_of_lt (Nat.div_le_self _ _) hn2) (by omega)
  rw [show (255 : Int) = ((2 ^ 8 - 1 : Nat) : Int) from rfl, this]
  exact dec_fmt (Nat.mod_lt _ (by omega))
 have b24 := hb 24 (by omega)
 have b16 := hb 16 (by omega)
 have b8 := hb 8 (by omega)
 have b0 := hb 0 (by omega)
 rw [show ((24 : Nat) : Int) = 24 from rfl] at b24
 rw [show ((16 : Nat) : Int) = 16 from rfl] at b16
 rw [show ((8 : Nat) : Int) = 8 from rfl] at b8
 rw [show ((0 : Nat) : Int) = 0 from rfl, Nat.pow_zero, Nat.div_one] at b0
 have hl : loopN addr_Text_L4 FUEL (((), (), (24, ()), ()), ((a, ()), ([] : List ByteArray), ())) = some (((), ()), ([⟨(dec3 (n / 2 ^ 24 % 256)).toArray⟩, ⟨(dec3 (n / 2 ^ 16 % 256)).toArray⟩, ⟨(dec3 (n / 2 ^ 8 % 256)).toArray⟩, ⟨(dec3 (n % 256)).toArray⟩], ())) := by
  rw [show FUEL = (FUEL - 5) + 1 + 1 + 1 + 1 + 1 from rfl]
  generalize FUEL - 5 = N
  have room1 : ∀ (l : List ByteArray) (x : ByteArray), l.length ≤ 8 → room (lenL l) (lenL [x]) = true := fun l x hl => room_of (lenL_nonneg _) (lenL_nonneg _) (by unfold lenL; simp only [List.length_cons, List.length_nil]; omega)
  rw [zq6]
  simp only [addr_Text_L4]
  rw [decide_eq_true (show (24 : Int) ≥ 0 by omega), br_true, req_of (by rfl), b24, bind_s, req_of (room1 _ _ (by simp)), req_of (by rfl), show (24 : Int) - 8 = 16 from rfl, zq6]
  simp only [addr_Text_L4]
  rw [decide_eq_true (show (16 : Int) ≥ 0 by omega), br_true, req_of (by rfl), b16, bind_s, req_of (room1 _ _ (by simp)), req_of (by rfl), show (16 : Int) - 8 = 8 from rfl, zq6]
  simp only [addr_Text_L4]
  rw [decide_eq_true (show (8 : Int) ≥ 0 by omega), br_true, req_of (by rfl), b8, bind_s, req_of (room1 _ _ (by simp)), req_of (by rfl), show (8 : Int) - 8 = 0 from rfl, zq6]
  simp only [addr_Text_L4]
  rw [decide_eq_true (show (0 : Int) ≥ 0 by omega), br_true, req_of (by rfl), b0, bind_s, req_of (room1 _ _ (by simp)), req_of (by rfl), show (0 : Int) - 8 = -8 from rfl, zq6]
  simp only [addr_Text_L4]
  rw [decide_eq_false (show ¬ (-8 : Int) ≥ 0 by omega), br_false]
  rfl
 rw [hl, bind_s]
 have hlen := join_len 46 3 [dec3 (n / 2 ^ 24 % 256), dec3 (n / 2 ^ 16 % 256), dec3 (n / 2 ^ 8 % 256), dec3 (n % 256)] (fun x hx => by
  simp only [List.mem_cons, List.not_mem_nil, or_false] at hx
  rcases hx with rfl | rfl | rfl | rfl <;> exact (dec3_chars _ (by omega)).2.1)
 simp only []
 rw [Join_eq (by simp) (by simp only [List.map_cons, List.map_nil]; simp at hlen ⊢; omega), bind_s]
 simp only [List.map_cons, List.map_nil]
 rw [hn]
 rfl
end Go.Ma
namespace Go.Ma
open Go
theorem noCC (c : UInt8) : ∀ xs : List (List UInt8), (∀ x ∈ xs, x ≠ [] ∧ c ∉ x) → ∀ (R : List UInt8) (j : Nat), j < (Lib.join xs [c]).length → ¬ ((Lib.join xs [c] ++ R)[j]? = some c ∧ (Lib.join xs [c] ++ R)[j + 1]? = some c)
 | [], _, R, j, hj => by simp [Lib.join_nil] at hj
 | [x], h, R, j, hj => by
  rw [Lib.join_one] at hj ⊢
  rintro ⟨h1, _⟩
  rw [List.getElem?_append_left hj] at h1
  exact (h x (by simp)).2 (List.mem_of_getElem? h1)
 | x :: y :: r, h, R, j, hj => by
  rw [join_cons2] at hj ⊢
  rintro ⟨h1, h2⟩
  rw [List.append_assoc] at h1 h2
  rcases Nat.lt_trichotomy j x.length with hlt | he | hgt
  ·rw [List.getElem?_append_left hlt] at h1
   exact (h x (by simp)).2 (List.mem_of_getElem? h1)
  ·subst he
   rw [List.getElem?_append_right (by omega), show x.length + 1 - x.length = 0 + 1 by omega, List.cons_append, List.getElem?_cons_succ] at h2
   obtain ⟨hy, hc⟩ := h y (by simp)
   cases hyy : y with
   | nil => exact hy hyy
   | cons b t =>
    have hb : b ≠ c := fun e => hc (by rw [hyy, e]; simp)
    have : (Lib.join (y :: r) [c] ++ R)[0]? = some b := by
     cases r with
     | nil => rw [Lib.join_one, hyy]; rfl
     | cons z r => rw [join_cons2, hyy]; rfl
    rw [this] at h2
    injection h2 with h2
    exact hb h2
  ·obtain ⟨k, rfl⟩ : ∃ k, j = x.length + 1 + k := ⟨j - x.length - 1, by omega⟩
   rw [List.getElem?_append_right (by omega), show x.length + 1 + k - x.length = k + 1 by omega, List.cons_append, List.getElem?_cons_succ] at h1
   rw [List.getElem?_append_right (by omega), show x.length + 1 + k + 1 - x.length = (k + 1) + 1 by omega, List.cons_append, List.getElem?_cons_succ] at h2
   exact noCC c (y :: r) (fun z hz => h z (by simp [hz])) R k (by simp only [List.length_append, List.length_cons] at hj; omega) ⟨h1, h2⟩
theorem hexs_ok {gs : List Nat} (h : ∀ g ∈ gs, g < 65536) : ∀ x ∈ gs.map hex4, x ≠ [] ∧ (58 : UInt8) ∉ x ∧ (46 : UInt8) ∉ x ∧ (47 : UInt8) ∉ x := fun x hx => by
 obtain ⟨g, hg, rfl⟩ := List.mem_map.1 hx
 obtain ⟨_, h2, _, h4⟩ := hex4_read g (h g hg)
 exact ⟨fun e => by rw [e] at h2; simp at h2, fun hc => (h4 _ hc).2.1 rfl, fun hc => (h4 _ hc).2.2.1 rfl, fun hc => (h4 _ hc).2.2.2 rfl⟩
theorem join_mem (c d : UInt8) : ∀ xs : List (List UInt8), d ∈ Lib.join xs [c] → (∃ x ∈ xs, d ∈ x) ∨ (d = c ∧ 2 ≤ xs.length)
 | [], h => by simp [Lib.join_nil] at h
 | [x], h => by rw [Lib.join_one] at h; exact .inl ⟨x, by simp, h⟩
 | x :: y :: r, h => by
  rw [join_cons2] at h
  rcases List.mem_append.1 h with h | h
  ·exact .inl ⟨x, by simp, h⟩
  ·rcases List.mem_cons.1 h with h | h
   ·exact .inr ⟨h, by simp⟩
   ·rcases join_mem c d (y :: r) h with ⟨z, hz, hd⟩ | ⟨e, _⟩
    ·exact .inl ⟨z, by simp [hz], hd⟩
    ·exact .inr ⟨e, by simp⟩
theorem sixteen_some : ∀ (gs : List Nat), (∀ g ∈ gs, g < 65536) → ∀ (last : Bool) (len i : Nat) (out : List Int), someL last len (gs.map hexA) i out = some (out ++ gs.map fun (g : Nat) => (g : Int))
 | [], _, _, _, _, out => by simp [someL]
 | g :: r, h, last, len, i, out => by
  have hd : dotIn (hexA g) = false := by
   unfold dotIn
   have := byte_none (hex4 g) 46 (hexs_ok (gs := [g]) (by simpa using h g (by simp)) _ (by simp)).2.2.1
   rw [show (hexA g).data.toList = hex4 g from rfl, this]
   rfl
  rw [List.map_cons, someL, hd, if_neg (by simp), part_hex' g (h g (by simp))]
  simp only
  rw [sixteen_some r (fun x hx => h x (by simp [hx])) last len (i + 1), List.map_cons, List.append_assoc]
  rfl
 where part_hex' (g : Nat) (h : g < 65536) : partF (hexA g) 16 4 65535 = some (g : Int) := part_hex g h
theorem joinG_split {gs : List Nat} (h0 : gs ≠ []) (h : ∀ g ∈ gs, g < 65536) : splitOn ⟨(joinG gs).toArray⟩ 58 = gs.map hexA := by
 unfold joinG
 rw [split_join 58 (by simpa using h0) fun x hx => (hexs_ok h x hx).2.1, List.map_map]
 rfl
theorem joinG_some {gs : List Nat} (h : ∀ g ∈ gs, g < 65536) (last : Bool) : someF ⟨(joinG gs).toArray⟩ last = some (gs.map fun (g : Nat) => (g : Int)) := by
 by_cases h0 : gs = []
 ·subst h0
  rfl
 ·have hpos : 0 < (joinG gs).length := by
   unfold joinG
   match gs, h0 with
   | g :: r, _ =>
    have := (hexs_ok h (hex4 g) (by simp)).1
    have hp : 0 < (hex4 g).length := List.length_pos_iff.2 this
    cases r with
    | nil => rw [List.map_cons, List.map_nil, Lib.join_one]; exact hp
    | cons g2 r => rw [List.map_cons, List.map_cons, join_cons2]; simp only [List.length_append]; omega
  unfold someF
  rw [if_neg (by simp [ByteArray.size]; intro e; rw [e] at hpos; simp at hpos), joinG_split h0 h, sixteen_some gs h]
  simp
theorem packI_nat : ∀ (gs : List Nat) (n : Nat), (∀ g ∈ gs, g < 65536) → (n + 1) * 65536 ^ gs.length ≤ 18446744073709551616 → packI (gs.map fun (g : Nat) => (g : Int)) (n : Int) = ((gs.foldl (fun n g => n * 65536 + g) n : Nat) : Int)
 | [], n, _, _ => rfl
 | g :: r, n, h, hn => by
  have hg := h g (by simp)
  have h1 : (n + 1) * 65536 * 65536 ^ r.length ≤ 18446744073709551616 := by rw [List.length_cons, Nat.pow_succ, Nat.mul_comm (65536 ^ r.length) 65536, ← Nat.mul_assoc] at hn; exact hn
  have h2 : 1 ≤ 65536 ^ r.length := Nat.pow_pos (by omega)
  have h3 : (n + 1) * 65536 ≤ 18446744073709551616 := Nat.le_trans (by simpa using Nat.mul_le_mul_left ((n + 1) * 65536) h2) h1
  rw [List.map_cons, packI, List.foldl_cons]
  have hs : aop .shl .u64 (n : Int) 16 = ((2 ^ 16 * n : Nat) : Int) := shl_nat n 16 (by omega) (by omega)
  rw [hs, or_low n g 16 (by omega) (by omega), show 2 ^ 16 * n + g = n * 65536 + g by omega]
  refine packI_nat r (n * 65536 + g) (fun x hx => h x (by simp [hx])) (Nat.le_trans (Nat.mul_le_mul_right _ ?_) h1)
  omega
theorem packA_gs {a : Ad} (h : a.wf) (hv : a.v6 = true) : packA ((gsA a).map fun (g : Nat) => (g : Int)) = a := by
 obtain ⟨h1, h2, h3, h4⟩ := h
 have e : gsA a = [gI a 0, gI a 1, gI a 2, gI a 3, gI a 4, gI a 5, gI a 6, gI a 7] := rfl
 have hp : ∀ b c d f : Nat, b < 65536 → c < 65536 → d < 65536 → f < 65536 → packI ([b, c, d, f].map fun (g : Nat) => (g : Int)) 0 = ((((b * 65536 + c) * 65536 + d) * 65536 + f : Nat) : Int) := fun b c d f hb hc hd hf => by
  have := packI_nat [b, c, d, f] 0 (by simp; omega) (by simp)
  simp only [List.foldl_cons, List.foldl_nil, Nat.zero_mul, Nat.zero_add] at this
  exact this
 unfold packA
 rw [e]
 have e1 : (([gI a 0, gI a 1, gI a 2, gI a 3, gI a 4, gI a 5, gI a 6, gI a 7].map fun (g : Nat) => (g : Int)).take 4) = ([gI a 0, gI a 1, gI a 2, gI a 3].map fun (g : Nat) => (g : Int)) := rfl
 have e2 : ((([gI a 0, gI a 1, gI a 2, gI a 3, gI a 4, gI a 5, gI a 6, gI a 7].map fun (g : Nat) => (g : Int)).drop 4).take 4) = ([gI a 4, gI a 5, gI a 6, gI a 7].map fun (g : Nat) => (g : Int)) := rfl
 rw [e1, e2, hp _ _ _ _ (gI_lt a 0) (gI_lt a 1) (gI_lt a 2) (gI_lt a 3), hp _ _ _ _ (gI_lt a 4) (gI_lt a 5) (gI_lt a 6) (gI_lt a 7)]
 obtain ⟨v, hi, lo⟩ := a
 simp only at h1 h2 h3 h4 hv
 subst hv
 obtain ⟨n, rfl⟩ := Int.eq_ofNat_of_zero_le h1
 obtain ⟨k, rfl⟩ := Int.eq_ofNat_of_zero_le h3
 simp only [gI, Int.toNat_natCast]
 congr 2 <;> simp <;> omega
theorem cut_at {s : List UInt8} {k : Nat} (hk : k ≤ s.length) (h : Lib.occAt s [58, 58] k = true) (hn : ∀ j, j < k → Lib.occAt s [58, 58] j = false) : Lib.cut s [58, 58] = (s.take k, s.drop (k + 2), true) := by
 unfold Lib.cut
 rw [index_at hk h hn]
 simp
theorem cut_no {s : List UInt8} (hn : ∀ j, j ≤ s.length → Lib.occAt s [58, 58] j = false) : Lib.cut s [58, 58] = (s, [], false) := by
 unfold Lib.cut
 rw [index_no hn]
 rfl
theorem colonIn_of {s : List UInt8} (h : (58 : UInt8) ∈ s) : colonIn ⟨s.toArray⟩ = true := decide_eq_true (byte_some h)
theorem colonIn_no {s : List UInt8} (h : (58 : UInt8) ∉ s) : colonIn ⟨s.toArray⟩ = false := decide_eq_false (by rw [show (⟨s.toArray⟩ : ByteArray).data.toList = s from rfl, byte_none s 58 h]; omega)
theorem join_colon : ∀ (x y : List UInt8) (r : List (List UInt8)) (c : UInt8), c ∈ Lib.join (x :: y :: r) [c] := fun x y r c => by
 rw [join_cons2]
 simp
theorem six_none {a : Ad} (h : a.wf) (hv : a.v6 = true) : toldF ⟨(joinG (gsA a)).toArray⟩ = some a := by
 have hg := gsA_lt a
 have hc : (58 : UInt8) ∈ joinG (gsA a) := join_colon _ _ _ 58
 unfold toldF
 rw [if_pos (colonIn_of hc)]
 have hcut : Lib.cut (joinG (gsA a)) [58, 58] = (joinG (gsA a), [], false) := cut_no fun j hj => by
  rw [occ_two]
  by_cases hlt : j < (joinG (gsA a)).length
  ·have := noCC 58 ((gsA a).map hex4) (fun x hx => ⟨(hexs_ok hg x hx).1, (hexs_ok hg x hx).2.1⟩) [] j hlt
   rw [List.append_nil] at this
   rw [Bool.and_eq_false_iff, decide_eq_false_iff_not, decide_eq_false_iff_not]
   exact Classical.not_and_iff_not_or_not.1 this
  ·rw [List.getElem?_eq_none (by omega)]
   rfl
 unfold sixteenF
 have h3 : cut3 ⟨(joinG (gsA a)).toArray⟩ = false := by unfold cut3; rw [show (⟨(joinG (gsA a)).toArray⟩ : ByteArray).data.toList = joinG (gsA a) from rfl, hcut]
 rw [h3, if_neg (by simp), joinG_some hg]
 simp only
 rw [if_pos (by simp [gsA]), packA_gs h hv]
theorem gs_zeros {a : Ad} {x m : Nat} (h : Row0 a x m) : gsA a = (gsA a).take x ++ List.replicate m 0 ++ (gsA a).drop (x + m) := by
 obtain ⟨h1, h2⟩ := h
 apply List.ext_getElem?
 intro i
 have hl : (gsA a).length = 8 := by simp [gsA]
 have hg : ∀ i, i < 8 → (gsA a)[i]? = some (gI a i) := fun i hi => by simp [gsA, hi]
 by_cases c1 : i < x
 ·rw [List.append_assoc, List.getElem?_append_left (by simp [hl]; omega), List.getElem?_take, if_pos c1]
 ·by_cases c2 : i < x + m
  ·rw [List.getElem?_append_left (by simp [hl]; omega), List.getElem?_append_right (by simp [hl]; omega)]
   rw [hg i (by omega)]
   have := h2 (i - x) (by omega)
   rw [show x + (i - x) = i by omega] at this
   rw [this, List.getElem?_replicate, if_pos (by simp [hl]; omega)]
  ·rw [List.getElem?_append_right (by simp [hl]; omega), List.getElem?_drop]
   congr 1
   simp [hl]
   omega
theorem six_some {a : Ad} (h : a.wf) (hv : a.v6 = true) {x m : Nat} (m1 : 2 ≤ m) (hr : Row0 a x m) : toldF ⟨(joinG ((gsA a).take x) ++ [58, 58] ++ joinG ((gsA a).drop (x + m))).toArray⟩ = some a := by
 have hg := gsA_lt a
 have hga : ∀ g ∈ (gsA a).take x, g < 65536 := fun g hx => hg g (List.mem_of_mem_take hx)
 have hgb : ∀ g ∈ (gsA a).drop (x + m), g < 65536 := fun g hx => hg g (List.mem_of_mem_drop hx)
 have hx8 : x + m ≤ 8 := hr.1
 have hl : (gsA a).length = 8 := by simp [gsA]
 have hla : ((gsA a).take x).length = x := by rw [List.length_take, hl]; omega
 have hlb : ((gsA a).drop (x + m)).length = 8 - (x + m) := by rw [List.length_drop, hl]
 have hz := gs_zeros hr
 have hcut : Lib.cut (joinG ((gsA a).take x) ++ [58, 58] ++ joinG ((gsA a).drop (x + m))) [58, 58] = (joinG ((gsA a).take x), joinG ((gsA a).drop (x + m)), true) := by
  have := cut_at (s := joinG ((gsA a).take x) ++ [58, 58] ++ joinG ((gsA a).drop (x + m))) (k := (joinG ((gsA a).take x)).length) (by simp only [List.length_append]; omega) (occ_at _ _ _) fun j hj => by
   rw [occ_two]
   have := noCC 58 (((gsA a).take x).map hex4) (fun y hy => ⟨(hexs_ok hga y hy).1, (hexs_ok hga y hy).2.1⟩) ([58, 58] ++ joinG ((gsA a).drop (x + m))) j hj
   rw [← List.append_assoc] at this
   rw [Bool.and_eq_false_iff, decide_eq_false_iff_not, decide_eq_false_iff_not]
   exact Classical.not_and_iff_not_or_not.1 this
  rw [this]
  congr 1
  ·rw [List.append_assoc, List.take_left]
  ·congr 1
   rw [← List.drop_drop, List.append_assoc, List.drop_left]
   rfl
 generalize hA : joinG ((gsA a).take x) = A at hcut ⊢
 generalize hB : joinG ((gsA a).drop (x + m)) = B at hcut ⊢
 have hc : (58 : UInt8) ∈ A ++ [58, 58] ++ B := by simp
 unfold toldF
 rw [if_pos (colonIn_of hc)]
 unfold sixteenF
 have e : (⟨(A ++ [58, 58] ++ B).toArray⟩ : ByteArray).data.toList = A ++ [58, 58] ++ B := rfl
 have h3 : cut3 ⟨(A ++ [58, 58] ++ B).toArray⟩ = true := by unfold cut3; rw [e, hcut]
 have h1 : cut1 ⟨(A ++ [58, 58] ++ B).toArray⟩ = ⟨A.toArray⟩ := by unfold cut1; rw [e, hcut]
 have h2 : cut2 ⟨(A ++ [58, 58] ++ B).toArray⟩ = ⟨B.toArray⟩ := by unfold cut2; rw [e, hcut]
 rw [h3, if_pos rfl, h1, h2, ← hA, ← hB, joinG_some hga, joinG_some hgb]
 simp only [List.length_map, hla, hlb]
 rw [if_neg (by omega), show 8 - x - (8 - (x + m)) = m by omega]
 rw [show ((gsA a).take x).map (fun (g : Nat) => (g : Int)) ++ List.replicate m 0 ++ ((gsA a).drop (x + m)).map (fun (g : Nat) => (g : Int)) = (gsA a).map fun (g : Nat) => (g : Int) by
  conv => rhs; rw [hz]
  simp, packA_gs h hv]
theorem told_six {a : Ad} (h : a.wf) (hv : a.v6 = true) {T : List UInt8} (hT : Six a T) : toldF ⟨T.toArray⟩ = some a := by
 rcases hT with rfl | ⟨x, m, m1, hr, rfl⟩
 ·exact six_none h hv
 ·exact six_some h hv m1 hr
theorem told_four {n : Nat} (h : n < 4294967296) : toldF ⟨(text4 n).toArray⟩ = some ⟨false, 0, n⟩ := by
 have hd : ∀ x ∈ [dec3 (n / 2 ^ 24 % 256), dec3 (n / 2 ^ 16 % 256), dec3 (n / 2 ^ 8 % 256), dec3 (n % 256)], (58 : UInt8) ∉ x ∧ (46 : UInt8) ∉ x := fun x hx => by
  simp only [List.mem_cons, List.not_mem_nil, or_false] at hx
  rcases hx with rfl | rfl | rfl | rfl <;> exact ⟨fun hc => ((dec3_chars _ (by omega)).2.2 _ hc).1 rfl, fun hc => ((dec3_chars _ (by omega)).2.2 _ hc).2.1 rfl⟩
 have hno : (58 : UInt8) ∉ text4 n := fun hc => by
  rcases join_mem 46 58 _ hc with ⟨x, hx, hc⟩ | ⟨e, _⟩
  ·exact (hd x hx).1 hc
  ·exact absurd e (by decide)
 unfold toldF
 rw [colonIn_no hno, if_neg (by simp)]
 unfold fourF
 have hs : splitOn ⟨(text4 n).toArray⟩ 46 = [⟨(dec3 (n / 2 ^ 24 % 256)).toArray⟩, ⟨(dec3 (n / 2 ^ 16 % 256)).toArray⟩, ⟨(dec3 (n / 2 ^ 8 % 256)).toArray⟩, ⟨(dec3 (n % 256)).toArray⟩] := by
  unfold text4
  rw [split_join 46 (by simp) fun x hx => (hd x hx).2]
  rfl
 rw [hs]
 simp only [List.length_cons, List.length_nil, Nat.zero_add, Nat.reduceAdd, if_true]
 have step : ∀ (k b : Nat) (r : List ByteArray), b < 256 → k < 4294967296 → fourL (⟨(dec3 b).toArray⟩ :: r) (k : Int) = fourL r ((k * 256 + b : Nat) : Int) := fun k b r hb hk => by
  rw [fourL, part_dec b hb]
  simp only
  have hs : aop .shl .u64 (k : Int) 8 = ((2 ^ 8 * k : Nat) : Int) := shl_nat k 8 (by omega) (by omega)
  rw [hs, or_low k b 8 (by omega) (by omega), show 2 ^ 8 * k + b = k * 256 + b by omega]
 rw [show (0 : Int) = ((0 : Nat) : Int) from rfl, step 0 _ _ (by omega) (by omega), step _ _ _ (by omega) (by omega), step _ _ _ (by omega) (by omega), step _ _ _ (by omega) (by omega), fourL]
 simp only [Option.map_some]
 congr 2
 omega
end Go.Ma
namespace Go.Ma
open Go
theorem partF_bound {x : ByteArray} {b d m u : Int} (h : partF x b d m = some u) : 0 ≤ u ∧ u ≤ m := by
 unfold partF at h
 split at h
 ·split at h
  ·cases h
  ·rename_i n hn
   split at h
   ·cases h
   ·rename_i hc
    injection h with h
    subst h
    simp only [not_or, Int.not_lt] at hc
    omega
 ·cases h
theorem fourL_bound : ∀ (l : List ByteArray) (j n : Nat) (r : Int), j + l.length ≤ 4 → n < 256 ^ j → fourL l (n : Int) = some r → 0 ≤ r ∧ r < (256 ^ (j + l.length) : Nat)
 | [], j, n, r, _, hn, h => by
  simp only [fourL, Option.some.injEq] at h
  subst h
  simp only [List.length_nil, Nat.add_zero]
  omega
 | x :: l, j, n, r, hj, hn, h => by
  simp only [fourL] at h
  split at h
  ·cases h
  ·rename_i u hu
   obtain ⟨u1, u2⟩ := partF_bound hu
   obtain ⟨k, rfl⟩ := Int.eq_ofNat_of_zero_le u1
   simp only [List.length_cons] at hj
   have hp : 256 ^ j ≤ 256 ^ 3 := Nat.pow_le_pow_right (by omega) (by omega)
   have hs : aop .shl .u64 (n : Int) 8 = ((2 ^ 8 * n : Nat) : Int) := shl_nat n 8 (by omega) (by omega)
   rw [hs, or_low n k 8 (by omega) (by omega)] at h
   have := fourL_bound l (j + 1) (2 ^ 8 * n + k) r (by omega) (by rw [Nat.pow_succ]; omega) h
   rw [List.length_cons, show j + (l.length + 1) = j + 1 + l.length by omega]
   exact this
theorem fourF_bound {s : ByteArray} {r : Int} (h : fourF s = some r) : 0 ≤ r ∧ r < 4294967296 := by
 unfold fourF at h
 split at h
 ·rename_i h4
  have := fourL_bound (splitOn s 46) 0 0 r (by omega) (by decide) h
  rw [h4] at this
  exact this
 ·cases h
theorem someL_bound (last : Bool) (len : Nat) : ∀ (l : List ByteArray) (i : Nat) (out r : List Int), (∀ u ∈ out, 0 ≤ u ∧ u < 65536) → someL last len l i out = some r → ∀ u ∈ r, 0 ≤ u ∧ u < 65536
 | [], i, out, r, ho, h => by
  simp only [someL, Option.some.injEq] at h
  subst h
  exact ho
 | x :: l, i, out, r, ho, h => by
  simp only [someL] at h
  split at h
  ·split at h
   ·cases h
   ·rename_i n hn
    obtain ⟨n1, n2⟩ := fourF_bound hn
    refine someL_bound last len l (i + 1) _ r (fun u hu => ?_) h
    rcases List.mem_append.1 hu with hu | hu
    ·exact ho u hu
    ·obtain ⟨k, rfl⟩ := Int.eq_ofNat_of_zero_le n1
     have := and_low k 16 (by omega) (by omega)
     rw [show ((2 ^ 16 - 1 : Nat) : Int) = 65535 from rfl] at this
     rw [this] at hu
     simp only [List.mem_cons, List.not_mem_nil, or_false] at hu
     rcases hu with rfl | rfl <;> omega
  ·split at h
   ·cases h
   ·rename_i v hv
    obtain ⟨v1, v2⟩ := partF_bound hv
    refine someL_bound last len l (i + 1) _ r (fun u hu => ?_) h
    rcases List.mem_append.1 hu with hu | hu
    ·exact ho u hu
    ·rw [List.mem_singleton] at hu
     subst hu
     omega
theorem someF_bound {s : ByteArray} {last : Bool} {r : List Int} (h : someF s last = some r) : ∀ u ∈ r, 0 ≤ u ∧ u < 65536 := by
 unfold someF at h
 split at h
 ·injection h with h
  subst h
  exact fun u hu => by cases hu
 ·exact someL_bound _ _ _ _ _ _ (fun u hu => by cases hu) h
theorem packI_bound : ∀ (l : List Int) (j n : Nat), j + l.length ≤ 4 → n < 65536 ^ j → (∀ u ∈ l, 0 ≤ u ∧ u < 65536) → 0 ≤ packI l (n : Int) ∧ packI l (n : Int) < (65536 ^ (j + l.length) : Nat)
 | [], j, n, _, hn, _ => by
  simp only [packI, List.length_nil, Nat.add_zero]
  omega
 | x :: l, j, n, hj, hn, hl => by
  obtain ⟨u1, u2⟩ := hl x (by simp)
  obtain ⟨k, rfl⟩ := Int.eq_ofNat_of_zero_le u1
  simp only [List.length_cons] at hj
  have hp : 65536 ^ j ≤ 65536 ^ 3 := Nat.pow_le_pow_right (by omega) (by omega)
  have hs : aop .shl .u64 (n : Int) 16 = ((2 ^ 16 * n : Nat) : Int) := shl_nat n 16 (by omega) (by omega)
  rw [packI, hs, or_low n k 16 (by omega) (by omega), List.length_cons, show j + (l.length + 1) = j + 1 + l.length by omega]
  exact packI_bound l (j + 1) (2 ^ 16 * n + k) (by omega) (by rw [Nat.pow_succ]; omega) fun u hu => hl u (by simp [hu])
theorem packA_right {l : List Int} (h : ∀ u ∈ l, 0 ≤ u ∧ u < 65536) : (packA l).wf ∧ chkA (packA l) = 0 := by
 have b := fun (m : List Int) (hm : m.length ≤ 4) (hs : ∀ u ∈ m, u ∈ l) => packI_bound m 0 0 (by omega) (by decide) fun u hu => h u (hs u hu)
 have key : ∀ m : List Int, m.length ≤ 4 → (∀ u ∈ m, u ∈ l) → 0 ≤ packI m 0 ∧ packI m 0 < 18446744073709551616 := fun m hm hs => by
  obtain ⟨b1, b2⟩ := b m hm hs
  refine ⟨b1, Int.lt_of_lt_of_le b2 ?_⟩
  have : 65536 ^ (0 + m.length) ≤ 65536 ^ 4 := Nat.pow_le_pow_right (by omega) (by omega)
  omega
 obtain ⟨h1, h2⟩ := key (l.take 4) (by simp; omega) fun u hu => List.mem_of_mem_take hu
 obtain ⟨h3, h4⟩ := key ((l.drop 4).take 4) (by simp; omega) fun u hu => List.mem_of_mem_drop (List.mem_of_mem_take hu)
 exact ⟨⟨h1, h2, h3, h4⟩, rfl⟩
theorem toldF_right {s : ByteArray} {a : Ad} (h : toldF s = some a) : a.wf ∧ chkA a = 0 := by
 unfold toldF at h
 split at h
 ·unfold sixteenF at h
  split at h
  ·split at h
   ·cases h
   ·rename_i l hl
    split at h
    ·cases h
    ·rename_i m hm
     split at h
     ·cases h
     ·injection h with h
      subst h
      refine packA_right fun u hu => ?_
      rcases List.mem_append.1 hu with hu | hu
      ·rcases List.mem_append.1 hu with hu | hu
       ·exact someF_bound hl u hu
       ·rw [(List.mem_replicate.1 hu).2]; omega
      ·exact someF_bound hm u hu
  ·split at h
   ·cases h
   ·rename_i l hl
    split at h
    ·injection h with h
     subst h
     exact packA_right (someF_bound hl)
    ·cases h
 ·obtain ⟨n, hn, h⟩ := Option.map_eq_some_iff.1 h
  subst h
  obtain ⟨n1, n2⟩ := fourF_bound hn
  refine ⟨⟨by show (0 : Int) ≤ 0; omega, by show (0 : Int) < 18446744073709551616; omega, n1, by show n < 18446744073709551616; omega⟩, ?_⟩
  unfold chkA
  rw [if_neg]
  simp
  omega
theorem join_len1 (c : UInt8) (k : Nat) : ∀ xs : List (List UInt8), xs ≠ [] → (∀ x ∈ xs, x.length ≤ k) → (Lib.join xs [c]).length + 1 ≤ (k + 1) * xs.length
 | [], h, _ => absurd rfl h
 | [x], _, h => by
  rw [Lib.join_one]
  have := h x (by simp)
  simp
  omega
 | x :: y :: r, _, h => by
  have h1 := h x (by simp)
  have h2 := join_len1 c k (y :: r) (by simp) (fun z hz => h z (by simp [hz]))
  rw [join_cons2]
  simp only [List.length_append, List.length_cons] at h2 ⊢
  rw [Nat.mul_add (k + 1) (r.length + 1) 1]
  omega
theorem six_short {a : Ad} {T : List UInt8} (h : Six a T) : T.length ≤ 39 := by
 have hl : ∀ gs : List Nat, (∀ g ∈ gs, g < 65536) → ∀ x ∈ gs.map hex4, x.length ≤ 4 := fun gs hg x hx => by
  obtain ⟨g, hg', rfl⟩ := List.mem_map.1 hx
  exact (hex4_read g (hg g hg')).2.2.1
 rcases h with rfl | ⟨x, m, m1, hr, rfl⟩
 ·have := join_len1 58 4 ((gsA a).map hex4) (by simp [gsA]) (hl _ (gsA_lt a))
  rw [List.length_map, show (gsA a).length = 8 by simp [gsA]] at this
  unfold joinG
  omega
 ·have h1 := joinG_len (gs := (gsA a).take x) fun g hg => gsA_lt a g (List.mem_of_mem_take hg)
  have h2 := joinG_len (gs := (gsA a).drop (x + m)) fun g hg => gsA_lt a g (List.mem_of_mem_drop hg)
  have := hr.1
  simp only [List.length_append, List.length_cons, List.length_nil]
  rw [List.length_take, show (gsA a).length = 8 by simp [gsA]] at h1
  rw [List.length_drop, show (gsA a).length = 8 by simp [gsA]] at h2
  omega
theorem four_short (n : Nat) : (text4 n).length ≤ 15 := by
 have := join_len1 46 3 [dec3 (n / 2 ^ 24 % 256), dec3 (n / 2 ^ 16 % 256), dec3 (n / 2 ^ 8 % 256), dec3 (n % 256)] (by simp) fun x hx => by
  simp only [List.mem_cons, List.not_mem_nil, or_false] at hx
  rcases hx with rfl | rfl | rfl | rfl <;> exact (dec3_chars _ (by omega)).2.1
 unfold text4
 simp at this ⊢
 omega
theorem text_back {a : Ad} (h : a.wf) (hc : chkA a = 0) : ∃ T : List UInt8, addr_Text_t a = some (⟨T.toArray⟩, ()) ∧ toldF ⟨T.toArray⟩ = some a ∧ T.length ≤ 39 := by
 cases hv : a.v6
 ·obtain ⟨h1, h2, h3, h4⟩ := id h
  have hcc : a.hi = 0 ∧ a.lo < 4294967296 := by
   unfold chkA at hc
   split at hc
   ·cases hc
   ·rename_i hn
    rw [hv] at hn
    simp only [true_and, not_or, ne_eq, Decidable.not_not, Int.not_le] at hn
    exact hn
  refine ⟨text4 a.lo.toNat, text_v4 h hv, ?_, Nat.le_trans (four_short _) (by omega)⟩
  rw [told_four (by omega)]
  obtain ⟨v, hi, lo⟩ := a
  simp only at hcc hv h3 ⊢
  rw [hv, hcc.1]
  congr 2
  omega
 ·obtain ⟨T, t1, t2⟩ := text6 h hv
  exact ⟨T, t1, told_six h hv t2, six_short t2⟩
end Go.Ma
namespace Go.Ma
open Go
theorem zq2 (n t c i : Nat) : (bitsTo n t c)[i]? = if i < c then some (bitV n (t - i)) else none := by
 unfold bitsTo
 rw [List.getElem?_map]
 by_cases h : i < c
 ·rw [List.getElem?_range h, if_pos h]; rfl
 ·rw [if_neg h, List.getElem?_eq_none (by simpa using h)]; rfl
theorem num_testBit (hi lo i : Nat) (hlo : lo < 18446744073709551616) : (hi * 18446744073709551616 + lo).testBit i = if i < 64 then lo.testBit i else hi.testBit (i - 64) := by
 have := Nat.testBit_two_pow_mul_add (i := 64) hi (b := lo) (by simpa using hlo) i
 rw [Nat.mul_comm, show (18446744073709551616 : Nat) = 2 ^ 64 by decide]
 exact this
theorem bitV_congr {n i m j : Nat} (h : n.testBit i = m.testBit j) : bitV n i = bitV m j := by unfold bitV; rw [h]
theorem bitsA_eq {a : Ad} (h : a.wf) (hc : chkA a = 0) : bitsA a = bitsTo a.num (wid a.v6 - 1) (wid a.v6) := by
 obtain ⟨h1, h2, h3, h4⟩ := h
 have hlo : a.lo.toNat < 18446744073709551616 := by omega
 unfold bitsA Ad.num
 apply List.ext_getElem?
 intro i
 cases hv : a.v6
 ·unfold chkA at hc
  rw [hv] at hc
  have hz : a.hi = 0 ∧ ¬ (4294967296 : Int) ≤ a.lo := by
   split at hc
   ·cases hc
   ·rename_i hn
    simp only [true_and, not_or, Decidable.not_not] at hn
    exact hn
  simp only [Bool.false_eq_true, if_false, wid]
  rw [List.getElem?_drop, List.getElem?_append_right (by rw [zq3]; omega), zq3, zq2, zq2, hz.1]
  by_cases hi : i < 32
  ·rw [if_pos (by omega), if_pos hi]
   have e : 63 - (96 + i - 64) = 32 - 1 - i := by omega
   rw [e]
   simp
  ·rw [if_neg (by omega), if_neg hi]
 ·simp only [if_true, wid]
  rw [zq2]
  by_cases hi : i < 64
  ·rw [List.getElem?_append_left (by rw [zq3]; exact hi), zq2, if_pos hi, if_pos (by omega)]
   refine congrArg some (bitV_congr ?_)
   rw [num_testBit _ _ _ hlo, if_neg (by omega), show 128 - 1 - i - 64 = 63 - i by omega]
  ·rw [List.getElem?_append_right (by rw [zq3]; omega), zq3, zq2]
   by_cases hi2 : i < 128
   ·rw [if_pos (by omega), if_pos hi2]
    refine congrArg some (bitV_congr ?_)
    rw [num_testBit _ _ _ hlo, if_pos (by omega), show 63 - (i - 64) = 128 - 1 - i by omega]
   ·rw [if_neg (by omega), if_neg hi2]
theorem bitV_z (n i : Nat) : (bitV n i == 48) = !n.testBit i := by unfold bitV; cases n.testBit i <;> rfl
theorem mod_zero_iff (n k : Nat) : n % 2 ^ k = 0 ↔ ∀ i, i < k → n.testBit i = false := by
 constructor
 ·intro h i hi
  have := Nat.testBit_mod_two_pow n k i
  rw [h] at this
  simpa [hi] using this.symm
 ·intro h
  apply Nat.eq_of_testBit_eq
  intro i
  rw [Nat.testBit_mod_two_pow]
  by_cases hi : i < k <;> simp [hi, h]
theorem cutN_iff (n k : Nat) : cutN n k = n ↔ n % 2 ^ k = 0 := by
 unfold cutN
 have := Nat.div_add_mod n (2 ^ k)
 rw [Nat.mul_comm] at this
 omega
theorem tail_zero (n w b : Nat) (hb : b ≤ w) : ((bitsTo n (w - 1) w).drop b).all (· == 48) = decide (cutN n (w - b) = n) := by
 rw [Bool.eq_iff_iff, decide_eq_true_iff, cutN_iff, mod_zero_iff, List.all_eq_true]
 constructor
 ·intro h i hi
  have hm : bitV n i ∈ (bitsTo n (w - 1) w).drop b := by
   refine List.mem_iff_getElem?.2 ⟨w - 1 - i - b, ?_⟩
   rw [List.getElem?_drop, zq2, if_pos (by omega), show w - 1 - (b + (w - 1 - i - b)) = i by omega]
  have := h _ hm
  rw [bitV_z] at this
  simpa using this
 ·intro h x hx
  obtain ⟨j, hj⟩ := List.mem_iff_getElem?.1 hx
  rw [List.getElem?_drop, zq2] at hj
  split at hj
  ·injection hj with hj
   subst hj
   rw [bitV_z, h _ (by omega)]
   rfl
  ·cases hj
theorem cutA_iff {a : Ad} (h : a.wf) (bits : Int) : cutA a bits = a ↔ cutN a.num (wid a.v6 - bits.toNat) = a.num := by
 unfold cutA
 constructor
 ·intro he
  have := congrArg Ad.num he
  rwa [num_ofNum] at this
 ·intro he
  rw [he, ofNum_num a h]
def toI (l : List UInt8) : List Int := l.map fun b => (b.toNat : Int)
theorem toI_len (l : List UInt8) : (toI l).length = l.length := by simp [toI]
theorem bytesOf_toI (l : List UInt8) : bytesOf (toI l) = ofBytes l := by
 unfold bytesOf toI ofBytes
 congr 1
 rw [List.map_map]
 congr 1
 conv => rhs; rw [← List.map_id l]
 apply List.map_congr_left
 intro b _
 simp
theorem bit_conv (x i : Int) (hx : 0 ≤ x) (hx' : x < 18446744073709551616) (hi : 0 ≤ i) (hi' : i ≤ 63) :
  convI .u8 (aop .add .u64 48 (aop .rem .u64 (aop .shr .u64 x i) 2)) = ((bitV x.toNat i.toNat).toNat : Int) := bit_step x i hx hx' hi hi'
theorem bits_loop3 {a : Ad} (h : a.In) : loopN R_Bits_L3 FUEL (((), (), (63, ()), ()), ((a, ()), ([] : List Int), ())) = some (((), (), ()), ((a, ()), toI (bitsTo a.hi.toNat 63 64), ())) := by
 have := loop_up (step := R_Bits_L3) (fun j => (((), (), (63 - (j : Int), ()), ()), ((a, ()), toI (bitsTo a.hi.toNat 63 j), ()))) 64 (fun _ => some (((), (), ()), ((a, ()), toI (bitsTo a.hi.toNat 63 64), ()))) (fun rec j hj hr => ?_) (fun rec => ?_) FUEL 0 (by omega) (fuel_gt (by omega))
 ·exact this
 ·simp only [R_Bits_L3]
  rw [decide_eq_true (by omega), br_true, req_true, bit_conv _ _ h.1.1 h.1.2 (by omega) (by omega)]
  rw [req_of (room_of (lenL_nonneg _) (lenL_nonneg _) (by simp only [lenL, toI_len, zq3, List.length_cons, List.length_nil]; omega)), req_of (i64ok_of (by omega) (by omega))]
  rw [← hr]
  have e1 : (63 - (j : Int)).toNat = 63 - j := by omega
  have e2 : 63 - (j : Int) - 1 = 63 - ((j + 1 : Nat) : Int) := by omega
  rw [e1, e2, bitsTo_succ]
  simp [toI]
 ·simp only [R_Bits_L3]
  rw [decide_eq_false (by omega), br_false]
theorem bits_loop7 {a : Ad} (h : a.In) : loopN R_Bits_L7 FUEL (((), (), (63, ()), ()), ((a, ()), toI (bitsTo a.hi.toNat 63 64), ())) = some (((), (), ()), ((a, ()), toI (bitsTo a.hi.toNat 63 64) ++ toI (bitsTo a.lo.toNat 63 64), ())) := by
 have := loop_up (step := R_Bits_L7) (fun j => (((), (), (63 - (j : Int), ()), ()), ((a, ()), toI (bitsTo a.hi.toNat 63 64) ++ toI (bitsTo a.lo.toNat 63 j), ()))) 64 (fun _ => some (((), (), ()), ((a, ()), toI (bitsTo a.hi.toNat 63 64) ++ toI (bitsTo a.lo.toNat 63 64), ()))) (fun rec j hj hr => ?_) (fun rec => ?_) FUEL 0 (by omega) (fuel_gt (by omega))
 ·rw [← this]
  simp [toI, bitsTo]
 ·simp only [R_Bits_L7]
  rw [decide_eq_true (by omega), br_true, req_true, bit_conv _ _ h.2.1 h.2.2 (by omega) (by omega)]
  rw [req_of (room_of (lenL_nonneg _) (lenL_nonneg _) (by simp only [lenL, List.length_append, toI_len, zq3, List.length_cons, List.length_nil]; omega)), req_of (i64ok_of (by omega) (by omega))]
  rw [← hr]
  have e1 : (63 - (j : Int)).toNat = 63 - j := by omega
  have e2 : 63 - (j : Int) - 1 = 63 - ((j + 1 : Nat) : Int) := by omega
  rw [e1, e2, bitsTo_succ a.lo.toNat 63 j]
  simp [toI]
 ·simp only [R_Bits_L7]
  rw [decide_eq_false (by omega), br_false]
theorem R_Bits_eq {a : Ad} (h : a.In) : R_Bits_t a = some (ofBytes (bitsA a), ()) := by
 unfold R_Bits_t bitsA
 rw [bits_loop3 h, bind_s, bits_loop7 h, bind_s]
 have e : toI (bitsTo a.hi.toNat 63 64) ++ toI (bitsTo a.lo.toNat 63 64) = toI (bitsTo a.hi.toNat 63 64 ++ bitsTo a.lo.toNat 63 64) := by simp [toI]
 simp only [e]
 cases a.v6
 ·have hl : lenL (toI (bitsTo a.hi.toNat 63 64 ++ bitsTo a.lo.toNat 63 64)) = 128 := by simp only [lenL, toI_len, List.length_append, zq3]; rfl
  rw [hl, Bool.not_false, br_true, req_of (by decide)]
  have : subL (toI (bitsTo a.hi.toNat 63 64 ++ bitsTo a.lo.toNat 63 64)) 96 128 = toI ((bitsTo a.hi.toNat 63 64 ++ bitsTo a.lo.toNat 63 64).drop 96) := by
   unfold subL
   rw [show (128 : Int).toNat = 128 from rfl, show (96 : Int).toNat = 96 from rfl, List.take_of_length_le (by rw [toI_len]; simp [zq3])]
   simp [toI, List.map_drop]
  rw [this, bytesOf_toI]
  rfl
 ·rw [Bool.not_true, br_false, bytesOf_toI]
  rfl
theorem bitsA_len (a : Ad) : (bitsA a).length = wid a.v6 := by
 unfold bitsA wid
 cases a.v6 <;> simp [zq3]
theorem ofBytes_list (l : List UInt8) : (ofBytes l).data.toList = l := by simp [ofBytes]
theorem ofBytes_size (l : List UInt8) : (ofBytes l).size = l.length := by simp [ofBytes, ByteArray.size]
theorem toNat48 (b : UInt8) : ((b.toNat : Int) = 48) ↔ b = 48 := by
 constructor
 ·intro h
  apply UInt8.toNat_inj.1
  have : b.toNat = 48 := by omega
  rw [this]
  rfl
 ·rintro rfl; rfl
theorem chkp_loop (s : ByteArray) (k : Nat) (hs : s.size < 9223372036854775808) (hk : k ≤ s.size) : loopN R_CheckPrefix_L8 FUEL (((s, ()), ((k : Int), ()), ()), ()) = some (if (s.data.toList.drop k).all (· == 48) then Sum.inr ((), ()) else Sum.inl (((4, ()), ()), ())) := by
 refine loop_up (step := R_CheckPrefix_L8) (fun i => (((s, ()), ((i : Int), ()), ()), ())) s.size (fun i => some (if (s.data.toList.drop i).all (· == 48) then Sum.inr ((), ()) else Sum.inl (((4, ()), ()), ()))) (fun rec i hi hr => ?_) (fun rec => ?_) FUEL k hk (fuel_gt (by omega))
 ·obtain ⟨b, hb⟩ : ∃ b, s.data.toList[i]? = some b := ⟨_, List.getElem?_eq_getElem (by rw [data_len]; exact hi)⟩
  simp only [R_CheckPrefix_L8]
  rw [decide_eq_true (show (i : Int) < lenS s by unfold lenS; omega), br_true, req_of (inRange_of (by omega) (by unfold lenS; omega)), byteAt_eq hb, drop_all _ hb]
  by_cases h48 : b = 48
  ·rw [decide_eq_true ((toNat48 b).2 h48), Bool.not_true, br_false, show ((i : Int) + 1) = ((i + 1 : Nat) : Int) by omega, req_of (i64ok_of (by omega) (by omega)), hr]
   simp [h48]
  ·rw [decide_eq_false (fun h => h48 ((toNat48 b).1 h)), Bool.not_false, br_true]
   simp [h48]
 ·simp only [R_CheckPrefix_L8]
  rw [decide_eq_false (show ¬ (s.size : Int) < lenS s by unfold lenS; omega), br_false, List.drop_of_length_le (by rw [data_len]; exact Nat.le_refl _)]
  rfl
theorem R_CheckPrefix_eq {p : Pf} (h : p.In) : R_CheckPrefix_t p = some (chkP p, ()) := by
 unfold R_CheckPrefix_t chkP
 rw [R_CheckAddr_eq h.1, bind_s]
 by_cases h1 : chkA p.ad = 0
 rotate_left
 ·simp [h1, br_true]
 simp only [h1, decide_true, Bool.not_true, br_false, ne_eq, not_true, if_false]
 rw [R_wide_eq, bind_s, R_between_eq, bind_s]
 by_cases h2 : p.bits < 0 ∨ p.bits > wid p.ad.v6
 ·rw [if_pos h2]
  have : betw p.bits 0 ((wid p.ad.v6 : Nat) : Int) = false := by
   rw [Bool.eq_false_iff]
   intro hb
   have := betw_iff.1 hb
   omega
  rw [this]
  rfl
 rw [if_neg h2]
 simp only [not_or] at h2
 have : betw p.bits 0 ((wid p.ad.v6 : Nat) : Int) = true := betw_iff.2 ⟨by omega, by omega⟩
 rw [this]
 simp only [Bool.not_true, br_false]
 obtain ⟨k, hk⟩ : ∃ k : Nat, p.bits = (k : Int) := ⟨p.bits.toNat, by omega⟩
 have hw := wid_le p.ad.v6
 rw [R_Bits_eq h.1, bind_s, hk, chkp_loop _ _ (by rw [ofBytes_size, bitsA_len]; omega) (by rw [ofBytes_size, bitsA_len]; omega), bind_s, ofBytes_list, bitsA_eq h.1.wf h1, tail_zero _ _ _ (by omega)]
 have e := cutA_iff h.1.wf (k : Int)
 rw [Int.toNat_natCast] at e
 by_cases h3 : cutN p.ad.num (wid p.ad.v6 - k) = p.ad.num
 ·have h4 := e.2 h3
  simp only [h3, h4, decide_true, if_true, not_true, if_false]
  rfl
 ·have h4 : ¬ cutA p.ad (k : Int) = p.ad := fun h => h3 (e.1 h)
  simp only [h3, h4, decide_false, Bool.false_eq_true, not_false_eq_true, if_true, if_false]
  rfl
end Go.Ma
namespace Go.Ma
open Go
theorem chkP_ad {p : Pf} (h : chkP p = 0) : chkA p.ad = 0 := by
 unfold chkP at h
 split at h
 ·rename_i h1; exact absurd h h1
 ·rename_i h1; exact Decidable.not_not.1 h1
theorem chkP_cut {p : Pf} (h : chkP p = 0) : cutA p.ad p.bits = p.ad := by
 unfold chkP at h
 split at h
 ·rename_i h1; exact absurd h h1
 split at h
 ·cases h
 split at h
 ·cases h
 ·rename_i h1; exact Decidable.not_not.1 h1
theorem take_bits (n m w b : Nat) (hb : b ≤ w) : (bitsTo n (w - 1) w).take b = (bitsTo m (w - 1) w).take b ↔ ∀ i, w - b ≤ i → i < w → n.testBit i = m.testBit i := by
 constructor
 ·intro h i h1 h2
  have := congrArg (fun l : List UInt8 => l[w - 1 - i]?) h
  have h3 : w - 1 - i < b := by omega
  have h4 : w - 1 - i < w := by omega
  simp only [List.getElem?_take, zq2, h3, h4, if_true, show w - 1 - (w - 1 - i) = i by omega] at this
  injection this with this
  unfold bitV at this
  cases hn : n.testBit i <;> cases hm : m.testBit i <;> rw [hn, hm] at this <;> first | rfl | (exfalso; revert this; decide)
 ·intro h
  apply List.ext_getElem?
  intro j
  simp only [List.getElem?_take, zq2]
  by_cases hj : j < b
  ·rw [if_pos hj, if_pos (by omega), if_pos hj, if_pos (by omega), bitV_congr (h (w - 1 - j) (by omega) (by omega))]
  ·rw [if_neg hj, if_neg hj]
theorem cutN_bits (n m w b : Nat) (hb : b ≤ w) (hn : n < 2 ^ w) (hm : m < 2 ^ w) : cutN n (w - b) = cutN m (w - b) ↔ ∀ i, w - b ≤ i → i < w → n.testBit i = m.testBit i := by
 unfold cutN
 have hp := Nat.two_pow_pos (w - b)
 constructor
 ·intro h i h1 h2
  have := congrArg (fun x => x.testBit i) h
  simp only [Nat.testBit_mul_two_pow, Nat.testBit_div_two_pow] at this
  simpa [h1, Nat.sub_add_cancel h1] using this
 ·intro h
  congr 1
  apply Nat.eq_of_testBit_eq
  intro i
  rw [Nat.testBit_div_two_pow, Nat.testBit_div_two_pow]
  by_cases hi : i + (w - b) < w
  ·exact h _ (by omega) hi
  ·have a1 : n.testBit (i + (w - b)) = false := Nat.testBit_lt_two_pow (Nat.lt_of_lt_of_le hn (Nat.pow_le_pow_right (by omega) (by omega)))
   have a2 : m.testBit (i + (w - b)) = false := Nat.testBit_lt_two_pow (Nat.lt_of_lt_of_le hm (Nat.pow_le_pow_right (by omega) (by omega)))
   rw [a1, a2]
theorem prefix_Holds_eq {p : Pf} {a : Ad} (h1 : 0 ≤ p.bits) (h2 : p.bits ≤ (wid p.ad.v6 : Nat)) (ha : a.In) : prefix_Holds_t p a = some (holds p a, ()) := by
 unfold prefix_Holds_t holds
 by_cases hv : p.ad.v6 = a.v6
 ·rw [show beqB p.ad.v6 a.v6 = true by simp [beqB, hv], br_true, prefix_Cut_eq a ha.wf p.bits h1 (by rw [← hv]; exact h2), bind_s, bind_s, eqAd_eq]
  simp [hv]
 ·rw [show beqB p.ad.v6 a.v6 = false by simp [beqB, hv], br_false, bind_s]
  simp [hv]
theorem R_HasAddr_eq {p : Pf} {a : Ad} (hp : p.In) (cp : chkP p = 0) (ha : a.In) (ca : chkA a = 0) : R_HasAddr_t p a = some (holds p a, ()) := by
 obtain ⟨h1, h2⟩ := chkP_bits cp
 unfold R_HasAddr_t holds
 by_cases hv : p.ad.v6 = a.v6
 rotate_left
 ·rw [show beqB p.ad.v6 a.v6 = false by simp [beqB, hv], br_false, bind_s]
  simp [hv]
 have l1 : lenS (ofBytes (bitsA p.ad)) = (wid p.ad.v6 : Nat) := by unfold lenS; rw [ofBytes_size, bitsA_len]
 have l2 : lenS (ofBytes (bitsA a)) = (wid p.ad.v6 : Nat) := by unfold lenS; rw [ofBytes_size, bitsA_len, hv]
 rw [show beqB p.ad.v6 a.v6 = true by simp [beqB, hv], br_true, R_Bits_eq hp.1, bind_s, R_Bits_eq ha, bind_s]
 simp only [l1, l2, h1, h2, decide_true, Bool.and_self, req_true, bind_s, strcmp_eql]
 have hs : ∀ l : List UInt8, subS (ofBytes l) 0 p.bits = ofBytes (l.take p.bits.toNat) := fun l => by
  apply ByteArray.ext
  simp [subS, ofBytes, ByteArray.data_extract]
 have hi : ∀ l r : List UInt8, ofBytes l = ofBytes r ↔ l = r := fun l r => by simp [ofBytes]
 have n1 := right_num p.ad ⟨hp.1.wf, chkP_ad cp⟩
 have n2 := right_num a ⟨ha.wf, ca⟩
 rw [← hv] at n2
 have hb : p.bits.toNat ≤ wid p.ad.v6 := by omega
 have key : (subS (ofBytes (bitsA p.ad)) 0 p.bits = subS (ofBytes (bitsA a)) 0 p.bits) ↔ cutA a p.bits = p.ad := by
  rw [hs, hs, hi, bitsA_eq hp.1.wf (chkP_ad cp), bitsA_eq ha.wf ca, ← hv, take_bits _ _ _ _ hb, ← cutN_bits _ _ _ _ hb n1 n2]
  have hc := (cutA_iff hp.1.wf p.bits).1 (chkP_cut cp)
  rw [hc]
  unfold cutA
  rw [← hv]
  constructor
  ·intro h
   rw [← h, ofNum_num _ hp.1.wf]
  ·intro h
   have := congrArg Ad.num h
   rw [num_ofNum] at this
   exact this.symm
 simp only [hv, beq_self_eq_true, Bool.true_and]
 congr 2
 exact decide_eq_decide.2 key
end Go.Ma
namespace Go.Ma
open Go
noncomputable def splitF (p : Pf) : Option (Pf × Pf × Unit) :=
 req (i64ok (p.bits + 1)) <| (prefix_Last_t ⟨p.ad, p.bits + 1⟩).bind fun y1 => (addr_After_t y1.1).bind fun y2 => some (⟨p.ad, p.bits + 1⟩, ⟨y2.1, p.bits + 1⟩, ())
theorem req_twice {X : Type} (c : Bool) (a : Option X) : req c (req c a) = req c a := by cases c <;> rfl
theorem prefix_Split_eq (p : Pf) : prefix_Split_t p = splitF p := by
 unfold prefix_Split_t splitF
 try simp only [dup_eq, both_self]
 cases h : i64ok (p.bits + 1)
 ·rfl
 ·simp only [req_true]
noncomputable def joinF (a b : Pf) : Option (Pf × Bool × Unit) :=
 br (bif decide (a.bits = 0) then true else bif !decide (a.bits = b.bits) then true else !(beqB a.ad.v6 b.ad.v6)) (some ((⟨⟨false, 0, 0⟩, 0⟩ : Pf), false, ()))
  (req (i64ok (a.bits - 1)) <| (prefix_Cut_t a.ad (a.bits - 1)).bind fun y => (splitF ⟨y.1, a.bits - 1⟩).bind fun z => br (eqPf z.1 a) (some (⟨y.1, a.bits - 1⟩, eqPf z.2.1 b, ())) (some (⟨y.1, a.bits - 1⟩, false, ())))
theorem prefix_Joined_eq (a b : Pf) : prefix_Joined_t a b = joinF a b := by
 unfold prefix_Joined_t joinF
 simp only [dup_eq, both_self, prefix_Split_eq, req_twice, br_sb, bind_s]
 cases decide (a.bits = 0) <;> cases decide (a.bits = b.bits) <;> cases beqB a.ad.v6 b.ad.v6 <;> rfl
def afterA (a : Ad) : Ad × Bool × Unit :=
 bif a.v6 && decide (aop .add .u64 a.lo 1 = 0) then (⟨a.v6, aop .add .u64 a.hi 1, aop .add .u64 a.lo 1⟩, !decide (aop .add .u64 a.hi 1 = 0), ())
 else (⟨a.v6, a.hi, aop .add .u64 a.lo 1⟩, bif a.v6 then true else decide (aop .add .u64 a.lo 1 < 4294967296), ())
theorem addr_After_all (a : Ad) : addr_After_t a = some (afterA a) := by
 unfold addr_After_t afterA
 try simp only [dup_eq, both_self]
 cases h : a.v6 <;> cases h2 : decide (aop .add .u64 a.lo 1 = 0) <;> simp [br, h, both_self] <;> rfl
def pb0 : Pf := ⟨⟨false, 0, 167772160⟩, 30⟩
def pb1 : Pf := ⟨⟨false, 0, 167772160⟩, 31⟩
def pb2 : Pf := ⟨⟨false, 0, 167772162⟩, 31⟩
theorem pb_parse : prefix_Parse_t (⟨#[49, 48, 46, 48, 46, 48, 46, 48, 47, 51, 48]⟩ : ByteArray) = some (pb0, 0, ()) := by kernel_rfl
theorem pb_net : law_net_t 167772162 31 = some (pb2, ()) := by kernel_rfl
theorem pb_has : prefix_Has_t pb0 pb2 = some (true, 0, ()) := by kernel_rfl
theorem pb_ends : prefix_Ends_t pb0 = some (⟨false, 0, 167772160⟩, ⟨false, 0, 167772163⟩, 0, ()) := by kernel_rfl
theorem pb_split : splitF pb0 = some (pb1, pb2, ()) := by
 unfold splitF
 simp only [addr_After_all]
 kernel_rfl
theorem pb_halves : prefix_Halves_t pb0 = some (pb1, pb2, 0, ()) := by
 unfold prefix_Halves_t
 simp only [dup_eq, both_self, prefix_Split_eq, pb_split]
 kernel_rfl
theorem pb_join : prefix_Joined_t pb1 pb2 = some (pb0, true, ()) := by
 rw [prefix_Joined_eq]
 unfold joinF splitF
 simp only [addr_After_all]
 kernel_rfl
theorem pb_whole : prefix_Whole_t pb1 pb2 = some (pb0, 0, ()) := by
 unfold prefix_Whole_t
 rw [pb_join]
 kernel_rfl
theorem pb_print : prefix_Print_t pb2 = some (⟨#[49, 48, 46, 48, 46, 48, 46, 50, 47, 51, 49]⟩, 0, ()) := by kernel_rfl
theorem pb_net1 : law_net_t 1 31 = some (⟨⟨false, 0, 1⟩, 31⟩, ()) := by kernel_rfl
theorem pb_chk : zq7 ⟨⟨false, 0, 1⟩, 31⟩ = some (4, ()) := by kernel_rfl
theorem pb_v0 : law_v4_t 167772160 = some (⟨false, 0, 167772160⟩, ()) := by kernel_rfl
theorem pb_v3 : law_v4_t 167772163 = some (⟨false, 0, 167772163⟩, ()) := by kernel_rfl
theorem pb_eq0 : eqPf pb0 pb0 = true := by kernel_rfl
theorem pb_str : strcmp .eql (⟨#[49, 48, 46, 48, 46, 48, 46, 50, 47, 51, 49]⟩ : ByteArray) (⟨#[49, 48, 46, 48, 46, 48, 46, 50, 47, 51, 49]⟩ : ByteArray) = true := by kernel_rfl
theorem pb_a0 : eqAd ⟨false, 0, 167772160⟩ ⟨false, 0, 167772160⟩ = true := by kernel_rfl
theorem pb_a3 : eqAd ⟨false, 0, 167772163⟩ ⟨false, 0, 167772163⟩ = true := by kernel_rfl
theorem prefixBegun_eq : law_prefixBegun_t = some (true, ()) := by
 unfold law_prefixBegun_t
 rw [pb_parse, bind_s, pb_net, bind_s, pb_has, bind_s, pb_ends, bind_s, pb_halves, bind_s, pb_whole, bind_s, pb_print, bind_s]
 simp only [decide_true, br_true, bind_s, pb_net1, pb_chk, pb_v0, pb_v3, pb_eq0, pb_str, pb_a0, pb_a3]
end Go.Ma
namespace Go.Ma
open Go
end Go.Ma
namespace Go.Ma
open Go
def parseA (s : ByteArray) : Ad × Int × Unit := match toldF s with | some a => (a, 0, ()) | none => (⟨false, 0, 0⟩, 1, ())
theorem addr_Parse_eq {s : ByteArray} (hs : s.size ≤ 4294967200) : addr_Parse_t s = some (parseA s) := by
 unfold addr_Parse_t addr_told_t parseA toldA
 rw [req_of (Nat.ble_eq_true_of_le hs), bind_s]
 cases toldF s <;> rfl
end Go.Ma
namespace Go.Ma
open Go
def lowB (b : UInt8) : Bool := betw (b.toNat : Int) 97 122 || betw (b.toNat : Int) 48 57
def whoOk (s : ByteArray) : Bool := s.data.toList.all lowB && betw (lenS s) 1 8
end Go.Ma
namespace Go.Ma
open Go
def rank (a : Ad) : Nat := (if a.v6 then 340282366920938463463374607431768211456 else 0) + a.num
def lsIn (l : List Ls) : Prop := ∀ x ∈ l, x.In
def chkLs (x : Ls) : Int := if chkA x.ad ≠ 0 then chkA x.ad else if whoOk x.who = false then 1 else if betw x.upto 0 10499 = false then 3 else 0
def chkLsF : List Ls → Int
 | [] => 0
 | x :: r => if chkLs x ≠ 0 then chkLs x else chkLsF r
def ascF : Ad → List Ls → Bool
 | _, [] => true
 | a, x :: r => decide (ordA a x.ad < 0) && ascF x.ad r
def ascL : List Ls → Bool
 | [] => true
 | x :: r => ascF x.ad r
def allC (l : List Ls) (now : Int) : Int := if l.length > 20 then 2 else if chkLsF l ≠ 0 then chkLsF l else if ascL l = false then 4 else if betw now 0 9999 = false then 3 else 0
end Go.Ma
namespace Go.Ma
open Go
end Go.Ma
namespace Go.Ma
open Go
end Go.Ma
namespace Go.Ma
open Go
def adIn (l : List Ad) : Prop := ∀ a ∈ l, a.In
def backB : Option Ad → Ad → Bool
 | some b, a => decide (ordA b a ≥ 0)
 | none, _ => false
def keptF (p : Pf) : Option Ad → List Ad → Int
 | _, [] => 0
 | prev, a :: r => if chkA a ≠ 0 then chkA a else if holds p a = false then 5 else if backB prev a = true then 4 else keptF p (some a) r
def chkPool (p : Pf) (kp : List Ad) : Int := if chkP p ≠ 0 then chkP p else if ¬ ((wid p.ad.v6 : Nat) : Int) - p.bits ≤ 4 ∨ kp.length > 6 then 2 else keptF p none kp
end Go.Ma
namespace Go.Ma
open Go
end Go.Ma
namespace Go.Ma
open Go
theorem wid_pow (v : Bool) : 2 ^ wid v ≤ 340282366920938463463374607431768211456 := by cases v <;> decide
theorem addr_After_eq {v : Bool} {n : Nat} (h : n + 1 < 2 ^ wid v) : addr_After_t (ofNum v n) = some (ofNum v (n + 1), true, ()) := by
 unfold addr_After_t
 simp only [both_self, dup_eq]
 have hadd : ∀ m : Nat, aop .add .u64 (m : Int) 1 = (((m + 1) % 18446744073709551616 : Nat) : Int) := fun m => by
  simp only [aop, wrap_u64_mod]
  omega
 have hw := wid_pow v
 cases v
 ·rw [show wid false = 32 from rfl] at h
  have q1 : (n + 1) / 18446744073709551616 = 0 := by omega
  have q2 : n / 18446744073709551616 = 0 := by omega
  have q3 : (n % 18446744073709551616 + 1) % 18446744073709551616 = n + 1 := by omega
  have q4 : (n + 1) % 18446744073709551616 = n + 1 := by omega
  simp only [ofNum, hadd, br_false, bind_s, q1, q2, q3, q4, both_self]
  rw [decide_eq_true (show (((n + 1 : Nat) : Int)) < 4294967296 by omega)]
 ·rw [show wid true = 128 from rfl] at h
  simp only [ofNum, hadd, br_true, bind_s]
  by_cases hc : n % 18446744073709551616 + 1 = 18446744073709551616
  ·have q1 : (n + 1) / 18446744073709551616 = n / 18446744073709551616 + 1 := by omega
   have q2 : (n + 1) % 18446744073709551616 = 0 := by omega
   have q3 : (n / 18446744073709551616 + 1) % 18446744073709551616 = n / 18446744073709551616 + 1 := by omega
   rw [hc, Nat.mod_self, decide_eq_true (show ((0 : Nat) : Int) = 0 from rfl), br_true, q1, q2, q3]
   rw [decide_eq_false (show ¬ (((n / 18446744073709551616 + 1 : Nat) : Int)) = 0 by omega)]
   rfl
  ·have q1 : (n + 1) / 18446744073709551616 = n / 18446744073709551616 := by omega
   have q2 : (n + 1) % 18446744073709551616 = n % 18446744073709551616 + 1 := by omega
   have q3 : (n % 18446744073709551616 + 1) % 18446744073709551616 = n % 18446744073709551616 + 1 := by omega
   rw [q3, decide_eq_false (show ¬ (((n % 18446744073709551616 + 1 : Nat) : Int)) = 0 by omega), br_false, q1, q2]
end Go.Ma
namespace Go.Ma
open Go
end Go.Ma
namespace Go.Ma
open Go
theorem div_step (m j : Nat) : m / 2 ^ j = 2 * (m / 2 ^ (j + 1)) + (if m.testBit j then 1 else 0) := by
 have h1 : m / 2 ^ (j + 1) = m / 2 ^ j / 2 := by rw [Nat.pow_succ, Nat.div_div_eq_div_mul]
 rw [h1, Nat.testBit_eq_decide_div_mod_eq]
 by_cases h : m / 2 ^ j % 2 = 1 <;> simp only [h, decide_true, decide_false, if_true, if_false, Bool.false_eq_true] <;> omega
theorem bit_val (n i : Nat) : convI .u64 (aop .sub .u8 ((bitV n i).toNat : Int) 48) = ((if n.testBit i then 1 else 0 : Nat) : Int) := by
 unfold bitV
 cases n.testBit i <;> decide
theorem dbl_step (x b r : Nat) (h : r = 2 * x + b) (hr : r < 18446744073709551616) : aop .add .u64 (aop .mul .u64 2 (x : Int)) (b : Int) = (r : Int) := by
 simp only [aop, wrap_u64_mod]
 omega
def accN (v : Bool) (n k : Nat) : Ad := ⟨v, ((n / 2 ^ (max k 64) : Nat) : Int), ((n % 18446744073709551616 / 2 ^ k : Nat) : Int)⟩
theorem acc_step {v : Bool} {n k : Nat} (hn : n < 2 ^ 128) : accN v n k = if k + 1 > 64 then (⟨v, aop .add .u64 (aop .mul .u64 2 (accN v n (k + 1)).hi) ((if n.testBit k then 1 else 0 : Nat) : Int), (accN v n (k + 1)).lo⟩ : Ad)
  else ⟨v, (accN v n (k + 1)).hi, aop .add .u64 (aop .mul .u64 2 (accN v n (k + 1)).lo) ((if n.testBit k then 1 else 0 : Nat) : Int)⟩ := by
 by_cases hk : k + 1 > 64
 ·rw [if_pos hk]
  unfold accN
  simp only
  have e1 : max k 64 = k := by omega
  have e2 : max (k + 1) 64 = k + 1 := by omega
  rw [e1, e2]
  have hlt : n / 2 ^ k < 18446744073709551616 := by
   rw [Nat.div_lt_iff_lt_mul (Nat.two_pow_pos k)]
   have : 2 ^ 64 ≤ 2 ^ k := Nat.pow_le_pow_right (by omega) (by omega)
   calc n < 2 ^ 128 := hn
    _ = 18446744073709551616 * 2 ^ 64 := by decide
    _ ≤ _ := Nat.mul_le_mul_left _ this
  rw [dbl_step _ _ _ (div_step n k) hlt]
  have z : ∀ q, 64 ≤ q → n % 18446744073709551616 / 2 ^ q = 0 := fun q hq => by
   apply Nat.div_eq_of_lt
   have : 2 ^ 64 ≤ 2 ^ q := Nat.pow_le_pow_right (by omega) hq
   omega
  rw [z k (by omega), z (k + 1) (by omega)]
 ·rw [if_neg hk]
  unfold accN
  simp only
  have e1 : max k 64 = 64 := by omega
  have e2 : max (k + 1) 64 = 64 := by omega
  rw [e1, e2]
  have ht : n.testBit k = (n % 18446744073709551616).testBit k := by
   rw [show (18446744073709551616 : Nat) = 2 ^ 64 from rfl, Nat.testBit_mod_two_pow]
   simp
   omega
  have hlt : n % 18446744073709551616 / 2 ^ k < 18446744073709551616 := Nat.lt_of_le_of_lt (Nat.div_le_self _ _) (Nat.mod_lt _ (by omega))
  rw [ht, dbl_step _ _ _ (div_step (n % 18446744073709551616) k) hlt]
theorem R_AddrOf_eq {v : Bool} {n : Nat} (h : n < 2 ^ wid v) : R_AddrOf_t (ofBytes (bitsTo n (wid v - 1) (wid v))) = some (ofNum v n, ()) := by
 have hw := wid_pow v
 have hn : n < 2 ^ 128 := Nat.lt_of_lt_of_le h (Nat.le_trans hw (by decide))
 have hlen : (ofBytes (bitsTo n (wid v - 1) (wid v))).size = wid v := by rw [ofBytes_size, zq3]
 have hwl := wid_le v
 unfold R_AddrOf_t
 have hv : decide (lenS (ofBytes (bitsTo n (wid v - 1) (wid v))) = 128) = v := by
  unfold lenS
  rw [hlen]
  cases v <;> decide
 rw [hv]
 generalize hs : ofBytes (bitsTo n (wid v - 1) (wid v)) = s at hlen ⊢
 have := loop_up (step := R_AddrOf_L3) (fun i => (((s, ()), (), (), ((i : Int), ()), ()), (((⟨false, 0, 0⟩ : Ad), ()), (accN v n (wid v - i), ()), ()))) (wid v) (fun i => some (((), (), ()), (((⟨false, 0, 0⟩ : Ad), ()), (ofNum v n, ()), ()))) (fun rec i hi hr => ?_) (fun rec => ?_) FUEL 0 (Nat.zero_le _) (fuel_gt (by omega))
 ·have h0 : accN v n (wid v - 0) = ⟨v, 0, 0⟩ := by
   unfold accN
   have q1 : n / 2 ^ (max (wid v - 0) 64) = 0 := by
    apply Nat.div_eq_of_lt
    exact Nat.lt_of_lt_of_le h (Nat.pow_le_pow_right (by omega) (by omega))
   have q2 : n % 18446744073709551616 / 2 ^ (wid v - 0) = 0 := by
    apply Nat.div_eq_of_lt
    exact Nat.lt_of_le_of_lt (Nat.mod_le _ _) h
   rw [q1, q2]
   rfl
  rw [h0] at this
  rw [show ((0 : Nat) : Int) = 0 from rfl] at this
  rw [this, bind_s]
 ·have hb : s.data.toList[i]? = some (bitV n (wid v - 1 - i)) := by
   rw [← hs, ofBytes_list, zq2, if_pos hi]
  simp only [R_AddrOf_L3]
  rw [decide_eq_true (show (i : Int) < lenS s by unfold lenS; omega), br_true, req_of (inRange_of (by omega) (by unfold lenS; omega)), req_of (i64ok_of (by unfold lenS; omega) (by unfold lenS; omega)), byteAt_eq hb, bit_val]
  have hst := acc_step (v := v) (k := wid v - (i + 1)) hn
  rw [show wid v - (i + 1) + 1 = wid v - i by omega, show wid v - (i + 1) = wid v - 1 - i by omega] at hst
  rw [show ((i : Int) + 1) = ((i + 1 : Nat) : Int) by omega, show wid v - (i + 1) = wid v - 1 - i by omega] at *
  by_cases hk : wid v - i > 64
  ·rw [if_pos hk] at hst
   rw [decide_eq_true (show lenS s - (i : Int) > 64 by unfold lenS; omega), br_true, req_of (i64ok_of (by omega) (by omega))]
   rw [show (accN v n (wid v - i)).v6 = v from rfl, ← hst, hr]
  ·rw [if_neg hk] at hst
   rw [decide_eq_false (show ¬ lenS s - (i : Int) > 64 by unfold lenS; omega), br_false, req_of (i64ok_of (by omega) (by omega))]
   rw [show (accN v n (wid v - i)).v6 = v from rfl, ← hst, hr]
 ·simp only [R_AddrOf_L3]
  rw [decide_eq_false (show ¬ ((wid v : Nat) : Int) < lenS s by unfold lenS; omega), br_false]
  have : accN v n (wid v - wid v) = ofNum v n := by
   unfold accN ofNum
   rw [Nat.sub_self, show max 0 64 = 64 from rfl, show (2 : Nat) ^ 64 = 18446744073709551616 from rfl, Nat.pow_zero, Nat.div_one]
  rw [this]
end Go.Ma
namespace Go.Ma
open Go
def splF (c : UInt8) : List UInt8 → List UInt8 → List (List UInt8)
 | _, [] => []
 | w, x :: r => if x = c then w :: splF c [] r else splF c (w ++ [x]) r
def splW (c : UInt8) : List UInt8 → List UInt8 → List UInt8
 | w, [] => w
 | w, x :: r => if x = c then splW c [] r else splW c (w ++ [x]) r
def splL (c : UInt8) (w s : List UInt8) : List (List UInt8) := splF c w s ++ [splW c w s]
theorem splL_nil (c : UInt8) (w : List UInt8) : splL c w [] = [w] := rfl
theorem splL_hit (c : UInt8) (w r : List UInt8) : splL c w (c :: r) = w :: splL c [] r := by simp [splL, splF, splW]
theorem splL_miss {c x : UInt8} (h : x ≠ c) (w r : List UInt8) : splL c w (x :: r) = splL c (w ++ [x]) r := by simp [splL, splF, splW, h]
theorem splL_ne (c : UInt8) (w s : List UInt8) : splL c w s ≠ [] := by simp [splL]
theorem splL_free (c : UInt8) : ∀ (s w : List UInt8), c ∉ w → ∀ x ∈ splL c w s, c ∉ x
 | [], w, h, x, hx => by
  rw [splL_nil, List.mem_singleton] at hx
  subst hx
  exact h
 | y :: r, w, h, x, hx => by
  by_cases hy : y = c
  ·subst hy
   rw [splL_hit] at hx
   rcases List.mem_cons.1 hx with rfl | hx
   ·exact h
   ·exact splL_free y r [] (by simp) x hx
  ·rw [splL_miss hy] at hx
   refine splL_free c r _ ?_ x hx
   intro hm
   rcases List.mem_append.1 hm with hm | hm
   ·exact h hm
   ·rw [List.mem_singleton] at hm
    exact hy hm.symm
theorem splL_join (c : UInt8) : ∀ (s w : List UInt8), Lib.join (splL c w s) [c] = w ++ s
 | [], w => by rw [splL_nil, Lib.join_one, List.append_nil]
 | y :: r, w => by
  by_cases hy : y = c
  ·subst hy
   rw [splL_hit]
   have := splL_join y r []
   cases hs : splL y [] r with
   | nil => exact absurd hs (splL_ne _ _ _)
   | cons a l =>
    rw [hs] at this
    rw [join_cons2, this]
    rfl
  ·rw [splL_miss hy, splL_join c r, List.append_assoc]
   rfl
theorem splitOn_spl (c : UInt8) (s : List UInt8) : splitOn ⟨s.toArray⟩ c = (splL c [] s).map ofBytes := by
 have := split_join c (splL_ne c [] s) (splL_free c s [] (by simp))
 rw [splL_join, List.nil_append] at this
 exact this
theorem ofBytes_data (s : ByteArray) : ofBytes s.data.toList = s := by
 apply ByteArray.ext
 simp [ofBytes]
theorem splitOn_any (c : UInt8) (s : ByteArray) : splitOn s c = (splL c [] s.data.toList).map ofBytes := by
 exact splitOn_spl c s.data.toList
theorem splF_len (c : UInt8) : ∀ s w : List UInt8, (splF c w s).length ≤ s.length
 | [], w => by simp [splF]
 | x :: r, w => by
  unfold splF
  split
  ·have := splF_len c r []
   simp only [List.length_cons] at this ⊢
   omega
  ·have := splF_len c r (w ++ [x])
   simp only [List.length_cons] at this ⊢
   omega
theorem splL_size (c : UInt8) : ∀ (s w : List UInt8), ∀ x ∈ splL c w s, x.length ≤ w.length + s.length
 | [], w, x, hx => by
  rw [splL_nil, List.mem_singleton] at hx
  subst hx
  simp
 | y :: r, w, x, hx => by
  by_cases hy : y = c
  ·subst hy
   rw [splL_hit] at hx
   rcases List.mem_cons.1 hx with rfl | hx
   ·omega
   ·have := splL_size y r [] x hx
    simp only [List.length_cons, List.length_nil] at this ⊢
    omega
  ·rw [splL_miss hy] at hx
   have := splL_size c r _ x hx
   simp only [List.length_cons, List.length_append, List.length_nil] at this ⊢
   omega
theorem splL_none {c : UInt8} : ∀ {s w : List UInt8}, c ∉ s → splL c w s = [w ++ s]
 | [], w, _ => by rw [splL_nil, List.append_nil]
 | y :: r, w, h => by
  have h1 : y ≠ c := fun e => h (by simp [e])
  have h2 : c ∉ r := fun e => h (by simp [e])
  rw [splL_miss h1, splL_none h2, List.append_assoc]
  rfl
def hexR (c : UInt8) : Option Nat :=
 if 48 ≤ c.toNat ∧ c.toNat ≤ 57 then some (c.toNat - 48) else if 97 ≤ c.toNat ∧ c.toNat ≤ 102 then some (c.toNat - 97 + 10) else if 65 ≤ c.toNat ∧ c.toNat ≤ 70 then some (c.toNat - 65 + 10) else none
theorem all_bytes {p : UInt8 → Bool} (h : (List.range 256).all (fun n => p (UInt8.ofNat n)) = true) (c : UInt8) : p c = true := by
 have := List.all_eq_true.1 h c.toNat (List.mem_range.2 c.toNat_lt)
 simpa using this
theorem hexv_eq (c : UInt8) : hexv c = hexR c := by
 have : ∀ c, (decide (hexv c = hexR c)) = true := all_bytes (by decide +kernel)
 exact of_decide_eq_true (this c)
theorem hexR_plain (c : UInt8) : hexR c = none ∨ (plainB c = true ∧ c ≠ 46 ∧ c ≠ 58) := by
 have : ∀ c, (decide (hexR c = none ∨ (plainB c = true ∧ c ≠ 46 ∧ c ≠ 58))) = true := all_bytes (by decide +kernel)
 exact of_decide_eq_true (this c)
theorem hexR_lt {c : UInt8} {d : Nat} (h : hexR c = some d) : d < 16 := by
 unfold hexR at h
 split at h
 ·injection h with h; omega
 ·split at h
  ·injection h with h; omega
  ·split at h
   ·injection h with h; omega
   ·cases h
theorem hexF_facts : ∀ (l : List UInt8) (a n : Nat), hexF l a = some n → n < (a + 1) * 16 ^ l.length ∧ l.all plainB = true ∧ (46 : UInt8) ∉ l
 | [], a, n, h => by
  simp only [hexF, Option.some.injEq] at h
  subst h
  simp
 | c :: r, a, n, h => by
  rw [hexF] at h
  cases hc : hexv c with
  | none => rw [hc] at h; cases h
  | some d =>
   rw [hc] at h
   simp only at h
   split at h
   ·cases h
   ·obtain ⟨h1, h2, h3⟩ := hexF_facts r _ n h
    rw [hexv_eq] at hc
    have hd := hexR_lt hc
    rcases hexR_plain c with hp | hp
    ·rw [hp] at hc; cases hc
    ·refine ⟨?_, ?_, ?_⟩
     ·have : (a * 16 + d + 1) * 16 ^ r.length ≤ (a + 1) * 16 ^ (c :: r).length := by
       rw [List.length_cons, Nat.pow_succ, Nat.mul_comm (16 ^ r.length) 16, ← Nat.mul_assoc]
       exact Nat.mul_le_mul_right _ (by omega)
      omega
     ·rw [List.all_cons, hp.1, h2]; rfl
     ·intro hm
      rcases List.mem_cons.1 hm with hm | hm
      ·exact hp.2.1 hm.symm
      ·exact h3 hm
def groupR (l : List UInt8) : Option Nat := if 1 ≤ l.length ∧ l.length ≤ 4 then hexF l 0 else none
theorem groupR_lt {l : List UInt8} {n : Nat} (h : groupR l = some n) : n < 65536 ∧ (46 : UInt8) ∉ l := by
 unfold groupR at h
 split at h
 ·rename_i hl
  obtain ⟨h1, _, h3⟩ := hexF_facts l 0 n h
  refine ⟨?_, h3⟩
  have : 16 ^ l.length ≤ 16 ^ 4 := Nat.pow_le_pow_right (by omega) hl.2
  omega
 ·cases h
theorem part_group (x : ByteArray) : partF x 16 4 65535 = (groupR x.data.toList).map fun (n : Nat) => (n : Int) := by
 have hl : x.data.toList.length = x.size := data_len x
 unfold partF groupR
 rw [hl]
 have e16 : numU 16 x = hexU x := by unfold numU; rw [if_neg (by decide)]
 rw [e16]
 unfold hexU
 by_cases h0 : x.size = 0
 ·rw [if_pos h0, if_neg (show ¬ (1 ≤ x.size ∧ x.size ≤ 4) by omega)]
  simp
 rw [if_neg h0]
 cases hF : hexF x.data.toList 0 with
 | none => simp
 | some n =>
  obtain ⟨h1, h2, _⟩ := hexF_facts _ _ _ hF
  rw [if_pos h2]
  simp only
  by_cases h4 : x.size ≤ 4
  ·rw [if_pos (show 1 ≤ x.size ∧ x.size ≤ 4 by omega)]
   have h5 : 16 ^ x.data.toList.length ≤ 16 ^ 4 := Nat.pow_le_pow_right (by omega) (by omega)
   have h6 : ¬ ((4 : Int) < (x.size : Int) ∨ (65535 : Int) < (n : Int) ∨ (16 : Int) = 10 ∧ 1 < x.size ∧ x.data.toList.head? = some 48) := by
    rintro (h | h | ⟨h, _⟩)
    ·omega
    ·have : n < 65536 := by omega
     omega
    ·exact absurd h (by decide)
   rw [if_neg h6]
   rfl
  ·rw [if_neg (show ¬ (1 ≤ x.size ∧ x.size ≤ 4) by omega), if_pos (.inl (by omega))]
   rfl
theorem decFrom_appZ : ∀ (l r : List UInt8) (acc : Nat), Lib.decFrom acc (l ++ r) = (Lib.decFrom acc l).bind fun m => Lib.decFrom m r
 | [], r, acc => rfl
 | b :: l, r, acc => by
  simp only [List.cons_append, Lib.decFrom]
  cases Lib.digitVal b with
  | none => rfl
  | some d => exact decFrom_appZ l r _
theorem digitVal_some {b : UInt8} {d : Nat} (h : Lib.digitVal b = some d) : d < 10 ∧ b = UInt8.ofNat (48 + d) ∧ b.toNat = 48 + d := by
 unfold Lib.digitVal at h
 split at h
 ·rename_i hb
  injection h with h
  refine ⟨by omega, ?_, by omega⟩
  apply UInt8.toNat_inj.1
  rw [UInt8.toNat_ofNat']
  omega
 ·cases h
theorem decFrom_ge : ∀ (l : List UInt8) (acc n : Nat), Lib.decFrom acc l = some n → acc ≤ n
 | [], acc, n, h => by
  simp only [Lib.decFrom, Option.some.injEq] at h
  omega
 | b :: r, acc, n, h => by
  rw [Lib.decFrom] at h
  cases hb : Lib.digitVal b with
  | none => rw [hb] at h; cases h
  | some d =>
   rw [hb] at h
   have := decFrom_ge r _ n h
   omega
theorem canon_dec : ∀ (k : Nat) (l : List UInt8) (n : Nat), l.length = k → l ≠ [] → (l.length = 1 ∨ l.head? ≠ some 48) → Lib.decFrom 0 l = some n → Lib.decDigits n = l := by
 intro k
 induction k with
 | zero => intro l n hk h0; exact absurd (List.length_eq_zero_iff.1 hk) h0
 | succ k ih =>
  intro l n hk h0 hh hd
  obtain ⟨l', b, rfl⟩ : ∃ l' b, l = l' ++ [b] := ⟨l.dropLast, l.getLast h0, (List.dropLast_concat_getLast h0).symm⟩
  rw [decFrom_appZ] at hd
  cases hm : Lib.decFrom 0 l' with
  | none => rw [hm] at hd; cases hd
  | some m =>
   rw [hm, Option.bind_some, Lib.decFrom] at hd
   cases hb : Lib.digitVal b with
   | none => rw [hb] at hd; cases hd
   | some d =>
    rw [hb] at hd
    simp only [Lib.decFrom, Option.some.injEq] at hd
    obtain ⟨d1, d2, _⟩ := digitVal_some hb
    by_cases hl : l' = []
    ·subst hl
     simp only [Lib.decFrom, Option.some.injEq] at hm
     have hnd : n = d := by omega
     rw [Lib.decDigits, dif_pos (by omega), List.nil_append, d2, hnd]
    ·have hl2 : l'.length = k := by simpa using hk
     have hhd : l'.head? ≠ some 48 := by
      rcases hh with hh | hh
      ·have : 0 < l'.length := List.length_pos_iff.2 hl
       rw [List.length_append, List.length_singleton] at hh
       omega
      ·cases l' with
       | nil => exact absurd rfl hl
       | cons y r => simpa using hh
     have hm1 : 1 ≤ m := by
      cases l' with
      | nil => exact absurd rfl hl
      | cons y r =>
       rw [Lib.decFrom] at hm
       cases hy : Lib.digitVal y with
       | none => rw [hy] at hm; cases hm
       | some e =>
        rw [hy] at hm
        have := decFrom_ge r _ m hm
        obtain ⟨_, e2, e3⟩ := digitVal_some hy
        have : e ≠ 0 := fun e0 => by
         subst e0
         simp at hhd
         exact hhd (by rw [e2]; rfl)
        omega
     have hI := ih l' m hl2 hl (.inr hhd) hm
     rw [Lib.decDigits, dif_neg (by omega), show n / 10 = m by omega, hI, d2]
     congr 3
     omega
theorem parse_dec (M : Nat) : ∀ (l : List UInt8) (acc u : Nat), Lib.parseUintM M acc l = .ok u → Lib.decFrom acc l = some u
 | [], acc, u, h => by
  simp only [Lib.parseUintM] at h
  injection h with h
  rw [h]
  rfl
 | c :: r, acc, u, h => by
  rw [Lib.parseUintM] at h
  split at h
  ·rename_i hc
   split at h
   ·cases h
   split at h
   ·cases h
   ·have := parse_dec M r _ u h
    rw [Lib.decFrom]
    unfold Lib.digitVal
    rw [if_pos hc]
    exact this
  ·cases h
def octR (l : List UInt8) : Option Nat := if l = [] then none else match Lib.decFrom 0 l with
 | none => none
 | some n => if n ≤ 255 ∧ Lib.decDigits n = l then some n else none
theorem octR_some {l : List UInt8} {n : Nat} (h : octR l = some n) : n ≤ 255 ∧ l = dec3 n := by
 unfold octR at h
 split at h
 ·cases h
 split at h
 ·cases h
 split at h
 ·rename_i h1
  injection h with h
  subst h
  refine ⟨h1.1, ?_⟩
  rw [← dec3_eq _ (by omega)]
  exact h1.2.symm
 ·cases h
theorem part_oct (x : ByteArray) : partF x 10 3 255 = (octR x.data.toList).map fun (n : Nat) => (n : Int) := by
 have hl : x.data.toList.length = x.size := data_len x
 cases ho : octR x.data.toList with
 | some n =>
  obtain ⟨h1, h2⟩ := octR_some ho
  have := part_dec n (by omega)
  rw [← h2] at this
  exact this
 | none =>
  cases hp : partF x 10 3 255 with
  | none => rfl
  | some u =>
   exfalso
   unfold partF at hp
   split at hp
   rotate_left
   ·cases hp
   split at hp
   ·cases hp
   rename_i n hn
   split at hp
   ·cases hp
   rename_i hc
   simp only [not_or, Int.not_lt, not_and] at hc
   have hn2 : Lib.parseUintB 32 x.data.toList = .ok n := by
    unfold numU decU at hn
    rw [if_pos rfl] at hn
    split at hn
    ·rename_i v hv
     injection hn with hn
     subst hn
     exact hv
    ·cases hn
   unfold Lib.parseUintB at hn2
   split at hn2
   ·cases hn2
   rename_i h0
   have hd := parse_dec _ _ _ _ hn2
   have hlen : 1 ≤ x.data.toList.length := List.length_pos_iff.2 h0
   have hcan := canon_dec _ x.data.toList n rfl h0 (by
    by_cases h1 : x.data.toList.length = 1
    ·exact .inl h1
    ·exact .inr (hc.2.2 trivial (by omega))) hd
   unfold octR at ho
   rw [if_neg h0, hd] at ho
   simp only at ho
   rw [if_pos ⟨by omega, hcan⟩] at ho
   cases ho
theorem bits_cat (n u j k : Nat) (hu : u < 2 ^ k) : bitsTo (n * 2 ^ k + u) (j + k - 1) (j + k) = bitsTo n (j - 1) j ++ bitsTo u (k - 1) k := by
 apply List.ext_getElem?
 intro i
 rw [zq2]
 have ht : ∀ q, (n * 2 ^ k + u).testBit q = if q < k then u.testBit q else n.testBit (q - k) := fun q => by
  rw [Nat.mul_comm]
  exact Nat.testBit_two_pow_mul_add n hu q
 by_cases h1 : i < j
 ·rw [if_pos (by omega), List.getElem?_append_left (by rw [zq3]; exact h1), zq2, if_pos h1]
  refine congrArg some (bitV_congr ?_)
  rw [ht, if_neg (by omega)]
  congr 1
  omega
 ·rw [List.getElem?_append_right (by rw [zq3]; omega), zq3, zq2]
  by_cases h2 : i < j + k
  ·rw [if_pos h2, if_pos (by omega)]
   refine congrArg some (bitV_congr ?_)
   rw [ht, if_pos (by omega)]
   congr 1
   omega
  ·rw [if_neg h2, if_neg (by omega)]
def bits16 (g : Int) : List UInt8 := bitsTo g.toNat 15 16
theorem bits16_len (g : Int) : (bits16 g).length = 16 := zq3 _ _ _
def bitsG (l : List Int) : List UInt8 := l.flatMap bits16
theorem bitsG_len (l : List Int) : (bitsG l).length = 16 * l.length := by
 unfold bitsG
 induction l with
 | nil => rfl
 | cons a l ih => rw [List.flatMap_cons, List.length_append, ih, bits16_len, List.length_cons]; omega
theorem bitsG_app (l m : List Int) : bitsG (l ++ m) = bitsG l ++ bitsG m := by simp [bitsG]
theorem bitsG_cons (a : Int) (l : List Int) : bitsG (a :: l) = bits16 a ++ bitsG l := by simp [bitsG]
theorem bits16_zero : bits16 0 = List.replicate 16 48 := by decide +kernel
theorem bitsG_zero (k : Nat) : bitsG (List.replicate k 0) = List.replicate (16 * k) 48 := by
 induction k with
 | zero => rfl
 | succ k ih => rw [List.replicate_succ, bitsG_cons, ih, bits16_zero, List.replicate_append_replicate]; congr 1; omega
def foldG (l : List Int) (n : Nat) : Nat := l.foldl (fun n g => n * 65536 + g.toNat) n
theorem bitsG_num : ∀ (l : List Int) (n j : Nat), (∀ u ∈ l, 0 ≤ u ∧ u < 65536) → bitsTo n (j - 1) j ++ bitsG l = bitsTo (foldG l n) (j + 16 * l.length - 1) (j + 16 * l.length)
 | [], n, j, _ => by simp [bitsG, foldG]
 | a :: l, n, j, h => by
  have ha := h a (by simp)
  have e := bits_cat n a.toNat j 16 (by omega)
  rw [bitsG_cons, ← List.append_assoc]
  unfold bits16
  rw [← e, show j + 16 - 1 = (j + 16) - 1 by omega, bitsG_num l _ (j + 16) (fun u hu => h u (by simp [hu])), List.length_cons, show j + 16 + 16 * l.length = j + 16 * (l.length + 1) by omega]
  rfl
theorem foldG_lt : ∀ (l : List Int) (n k : Nat), (∀ u ∈ l, 0 ≤ u ∧ u < 65536) → n < 65536 ^ k → foldG l n < 65536 ^ (k + l.length)
 | [], n, k, _, hn => by simpa [foldG] using hn
 | a :: l, n, k, h, hn => by
  have ha := h a (by simp)
  have := foldG_lt l (n * 65536 + a.toNat) (k + 1) (fun u hu => h u (by simp [hu])) (by rw [Nat.pow_succ]; omega)
  rw [List.length_cons, show k + (l.length + 1) = k + 1 + l.length by omega]
  exact this
theorem foldG_nat (gs : List Nat) (n : Nat) : foldG (gs.map fun (g : Nat) => (g : Int)) n = gs.foldl (fun n g => n * 65536 + g) n := by
 unfold foldG
 rw [List.foldl_map]
 rfl
theorem ints_nat {l : List Int} (h : ∀ u ∈ l, 0 ≤ u ∧ u < 65536) : ∃ gs : List Nat, l = gs.map (fun (g : Nat) => (g : Int)) ∧ ∀ g ∈ gs, g < 65536 := by
 refine ⟨l.map Int.toNat, ?_, fun g hg => ?_⟩
 ·rw [List.map_map]
  conv => lhs; rw [← List.map_id l]
  apply List.map_congr_left
  intro u hu
  have := (h u hu).1
  simp only [id, Function.comp]
  omega
 ·obtain ⟨u, hu, rfl⟩ := List.mem_map.1 hg
  have := h u hu
  omega
theorem pack_bits {l : List Int} (h : ∀ u ∈ l, 0 ≤ u ∧ u < 65536) (h8 : l.length = 8) : R_AddrOf_t (ofBytes (bitsG l)) = some (packA l, ()) := by
 have hb := bitsG_num l 0 0 h
 rw [h8] at hb
 have h0 : bitsTo 0 (0 - 1) 0 = [] := rfl
 rw [h0, List.nil_append] at hb
 have hlt := foldG_lt l 0 0 h (by decide)
 rw [h8] at hlt
 have h128 : foldG l 0 < 2 ^ wid true := Nat.lt_of_lt_of_le hlt (by decide)
 have := R_AddrOf_eq h128
 rw [show wid true = 128 from rfl] at this
 rw [hb, show 0 + 16 * 8 = 128 from rfl, this]
 refine congrArg (fun x : Ad => some (x, ())) ?_
 obtain ⟨gs, rfl, hg⟩ := ints_nat h
 rw [List.length_map] at h8
 unfold packA ofNum
 have hs : gs = gs.take 4 ++ gs.drop 4 := (List.take_append_drop 4 gs).symm
 have l1 : (gs.take 4).length = 4 := by simp; omega
 have l2 : (gs.drop 4).length = 4 := by simp; omega
 have m1 : (List.map (fun (g : Nat) => (g : Int)) gs).take 4 = (gs.take 4).map fun (g : Nat) => (g : Int) := by rw [List.map_take]
 have m2 : (List.drop 4 (List.map (fun (g : Nat) => (g : Int)) gs)).take 4 = (gs.drop 4).map fun (g : Nat) => (g : Int) := by
  rw [← List.map_drop, List.take_of_length_le (by rw [List.length_map]; omega)]
 have p1 := packI_nat (gs.take 4) 0 (fun g h => hg g (List.mem_of_mem_take h)) (by rw [l1]; decide)
 have p2 := packI_nat (gs.drop 4) 0 (fun g h => hg g (List.mem_of_mem_drop h)) (by rw [l2]; decide)
 rw [m1, m2, show (0 : Int) = ((0 : Nat) : Int) from rfl, p1, p2, foldG_nat]
 have key : ∀ (a b : List Nat) (n : Nat), b.length = 4 → (∀ g ∈ b, g < 65536) → (a ++ b).foldl (fun n g => n * 65536 + g) n = (a.foldl (fun n g => n * 65536 + g) n) * 18446744073709551616 + b.foldl (fun n g => n * 65536 + g) 0 ∧ b.foldl (fun n g => n * 65536 + g) 0 < 18446744073709551616 := by
  intro a b n hb hg
  match b, hb with
  | [x, y, z, w], _ =>
   have q1 := hg x (by simp)
   have q2 := hg y (by simp)
   have q3 := hg z (by simp)
   have q4 := hg w (by simp)
   rw [List.foldl_append]
   simp only [List.foldl]
   omega
 obtain ⟨k1, k2⟩ := key (gs.take 4) (gs.drop 4) 0 l2 (fun g h => hg g (List.mem_of_mem_drop h))
 rw [← hs] at k1
 rw [k1]
 generalize (gs.take 4).foldl (fun n g => n * 65536 + g) 0 = H at *
 generalize (gs.drop 4).foldl (fun n g => n * 65536 + g) 0 = L at *
 have e1 : (H * 18446744073709551616 + L) / 18446744073709551616 = H := by omega
 have e2 : (H * 18446744073709551616 + L) % 18446744073709551616 = L := by omega
 rw [e1, e2]
def fourR : List (List UInt8) → Nat → Option Nat
 | [], n => some n
 | x :: r, n => match octR x with
  | none => none
  | some u => fourR r (n * 256 + u)
theorem fourL_eq : ∀ (l : List (List UInt8)) (j n : Nat), j + l.length ≤ 4 → n < 256 ^ j → fourL (l.map ofBytes) (n : Int) = (fourR l n).map fun (n : Nat) => (n : Int)
 | [], j, n, _, _ => rfl
 | x :: l, j, n, hj, hn => by
  rw [List.map_cons, fourL, fourR, part_oct, ofBytes_list]
  cases ho : octR x with
  | none => rfl
  | some u =>
   have hu := (octR_some ho).1
   simp only [List.length_cons] at hj
   have hp : 256 ^ j ≤ 256 ^ 3 := Nat.pow_le_pow_right (by omega) (by omega)
   simp only [Option.map_some]
   have hs : aop .shl .u64 (n : Int) 8 = ((2 ^ 8 * n : Nat) : Int) := shl_nat n 8 (by omega) (by omega)
   rw [hs, or_low n u 8 (by omega) (by omega), fourL_eq l (j + 1) (2 ^ 8 * n + u) (by omega) (by rw [Nat.pow_succ]; omega), show 2 ^ 8 * n + u = n * 256 + u by omega]
theorem fourF_eq (s : ByteArray) : fourF s = (if (splL 46 [] s.data.toList).length = 4 then fourR (splL 46 [] s.data.toList) 0 else none).map fun (n : Nat) => (n : Int) := by
 unfold fourF
 rw [splitOn_any, List.length_map]
 by_cases h : (splL 46 [] s.data.toList).length = 4
 ·rw [if_pos h, if_pos h]
  exact fourL_eq _ 0 0 (by omega) (by decide)
 ·rw [if_neg h, if_neg h]
  rfl
theorem fourR_lt : ∀ (l : List (List UInt8)) (j n m : Nat), n < 256 ^ j → fourR l n = some m → m < 256 ^ (j + l.length)
 | [], j, n, m, hn, h => by
  simp only [fourR, Option.some.injEq] at h
  subst h
  simpa using hn
 | x :: l, j, n, m, hn, h => by
  rw [fourR] at h
  cases ho : octR x with
  | none => rw [ho] at h; cases h
  | some u =>
   rw [ho] at h
   have hu := (octR_some ho).1
   have := fourR_lt l (j + 1) _ m (by rw [Nat.pow_succ]; omega) h
   rw [List.length_cons, show j + (l.length + 1) = j + 1 + l.length by omega]
   exact this
end Go.Ma
namespace Go.Ma
open Go
def fourV (x : List UInt8) : Option Nat := if (splL 46 [] x).length = 4 then fourR (splL 46 [] x) 0 else none
theorem fourV_lt {x : List UInt8} {n : Nat} (h : fourV x = some n) : n < 4294967296 := by
 unfold fourV at h
 split at h
 ·rename_i h4
  have := fourR_lt _ 0 0 n (by decide) h
  rw [h4] at this
  exact this
 ·cases h
theorem fourF_V (s : ByteArray) : fourF s = (fourV s.data.toList).map fun (n : Nat) => (n : Int) := fourF_eq s
def pieceR (e : Bool) (x : List UInt8) : Option (List Int) := match groupR x with
 | some n => some [(n : Int)]
 | none => match e with
  | true => (fourV x).map fun n => [((n / 65536 : Nat) : Int), ((n % 65536 : Nat) : Int)]
  | false => none
theorem someL_step (last : Bool) (len : Nat) (x : List UInt8) (r : List ByteArray) (i : Nat) (out : List Int) :
  someL last len (ofBytes x :: r) i out = match pieceR (last && decide (i + 1 = len)) x with
   | none => none
   | some p => someL last len r (i + 1) (out ++ p) := by
 have hd : dotIn (ofBytes x) = decide ((46 : UInt8) ∈ x) := by
  unfold dotIn
  rw [ofBytes_list]
  by_cases h : (46 : UInt8) ∈ x
  ·rw [decide_eq_true h, decide_eq_true (byte_some h)]
  ·rw [decide_eq_false h, byte_none x 46 h]
   rfl
 rw [someL, hd, part_group, ofBytes_list, fourF_V, ofBytes_list]
 unfold pieceR
 by_cases hl : last = true ∧ i + 1 = len
 ·rw [hl.1, decide_eq_true hl.2, Bool.true_and]
  by_cases hx : (46 : UInt8) ∈ x
  ·rw [if_pos ⟨rfl, hl.2, decide_eq_true hx⟩]
   have hg : groupR x = none := by
    cases hg : groupR x with
    | none => rfl
    | some n => exact absurd hx (groupR_lt hg).2
   rw [hg]
   cases hv : fourV x with
   | none => rfl
   | some n =>
    have hn := fourV_lt hv
    simp only [Option.map_some]
    have h1 : (n : Int) / 65536 = ((n / 65536 : Nat) : Int) := by omega
    have h2 : aop .and .u64 (n : Int) 65535 = ((n % 65536 : Nat) : Int) := and_low n 16 (by omega) (by omega)
    rw [h1, h2]
  ·rw [if_neg (fun h => hx (of_decide_eq_true h.2.2))]
   have hv : fourV x = none := by
    unfold fourV
    rw [splL_none hx]
    rfl
   rw [hv]
   cases groupR x <;> rfl
 ·have he : (last && decide (i + 1 = len)) = false := by
   cases last
   ·rfl
   ·rw [decide_eq_false (fun h => hl ⟨rfl, h⟩)]
    rfl
  rw [he, if_neg (fun h => hl ⟨h.1, h.2.1⟩)]
  cases groupR x <;> rfl
theorem bits32 (n : Nat) : bitsTo n 31 32 = bitsG [((n / 65536 : Nat) : Int), ((n % 65536 : Nat) : Int)] := by
 have := bits_cat (n / 65536) (n % 65536) 16 16 (by omega)
 rw [bitsG_cons, bitsG_cons]
 unfold bits16
 simp only [Int.toNat_natCast]
 rw [show bitsG [] = [] from rfl, List.append_nil, ← this]
 congr 1
 omega
def ccL : List UInt8 → Option Nat
 | [] => none
 | x :: r => if x = 58 ∧ r.head? = some 58 then some 0 else (ccL r).map (· + 1)
theorem ccL_some : ∀ {s : List UInt8} {k : Nat}, ccL s = some k → (s[k]? = some 58 ∧ s[k + 1]? = some 58) ∧ ∀ j, j < k → ¬ (s[j]? = some 58 ∧ s[j + 1]? = some 58)
 | [], k, h => by cases h
 | x :: r, k, h => by
  rw [ccL] at h
  have hh : r.head? = r[0]? := by cases r <;> rfl
  split at h
  ·rename_i hc
   injection h with h
   subst h
   exact ⟨⟨by simp [hc.1], by rw [← hc.2, hh]; rfl⟩, fun j hj => by omega⟩
  ·rename_i hc
   cases hr : ccL r with
   | none => rw [hr] at h; cases h
   | some m =>
    rw [hr] at h
    simp only [Option.map_some, Option.some.injEq] at h
    subst h
    obtain ⟨h1, h2⟩ := ccL_some hr
    refine ⟨by simpa using h1, fun j hj hb => ?_⟩
    cases j with
    | zero => exact hc ⟨by simpa using hb.1, by rw [hh]; simpa using hb.2⟩
    | succ j => exact h2 j (by omega) (by simpa using hb)
theorem ccL_none : ∀ {s : List UInt8}, ccL s = none → ∀ j : Nat, ¬ (s[j]? = some 58 ∧ s[j + 1]? = some 58)
 | [], _, j, hb => by simp at hb
 | x :: r, h, j, hb => by
  rw [ccL] at h
  have hh : r.head? = r[0]? := by cases r <;> rfl
  split at h
  ·cases h
  ·rename_i hc
   cases hr : ccL r with
   | some m => rw [hr] at h; cases h
   | none =>
    cases j with
    | zero => exact hc ⟨by simpa using hb.1, by rw [hh]; simpa using hb.2⟩
    | succ j => exact ccL_none hr j (by simpa using hb)
theorem cut_cc (s : List UInt8) : Lib.cut s [58, 58] = match ccL s with
  | some k => (s.take k, s.drop (k + 2), true)
  | none => (s, [], false) := by
 cases h : ccL s with
 | some k =>
  obtain ⟨h1, h2⟩ := ccL_some h
  have hk : k < s.length := (List.getElem?_eq_some_iff.1 h1.1).1
  exact cut_at (by omega) (by rw [occ_two, decide_eq_true h1.1, decide_eq_true h1.2]; rfl) (fun j hj => by
   rw [occ_two, Bool.and_eq_false_iff, decide_eq_false_iff_not, decide_eq_false_iff_not]
   by_cases hb : s[j]? = some 58
   ·exact .inr fun hb2 => h2 j hj ⟨hb, hb2⟩
   ·exact .inl hb)
 | none =>
  have h2 := ccL_none h
  exact cut_no (fun j _ => by
   rw [occ_two, Bool.and_eq_false_iff, decide_eq_false_iff_not, decide_eq_false_iff_not]
   by_cases hb : s[j]? = some 58
   ·exact .inr fun hb2 => h2 j ⟨hb, hb2⟩
   ·exact .inl hb)
theorem ccL_len {s : List UInt8} {k : Nat} (h : ccL s = some k) : k + 2 ≤ s.length := by
 have := (List.getElem?_eq_some_iff.1 (ccL_some h).1.2).1
 omega
def ccAt (s : List UInt8) (i : Nat) : Int := match ccL (s.drop i) with | some k => ((i + k : Nat) : Int) | none => -1
theorem ccAt_step {s : List UInt8} {i : Nat} {b : UInt8} (h : s[i]? = some b) : ccAt s i = if b = 58 ∧ s[i + 1]? = some 58 then (i : Int) else ccAt s (i + 1) := by
 unfold ccAt
 rw [drop_cons h, ccL]
 have hh : (s.drop (i + 1)).head? = s[i + 1]? := by rw [List.head?_drop]
 rw [hh]
 by_cases hc : b = 58 ∧ s[i + 1]? = some 58
 ·rw [if_pos hc, if_pos hc]
  simp
 ·rw [if_neg hc, if_neg hc]
  cases ccL (s.drop (i + 1)) with
  | none => rfl
  | some k => simp only [Option.map_some]; omega
def zrow : List Nat → Nat
 | [] => 0
 | g :: r => if g = 0 then zrow r + 1 else 0
theorem zrow_le : ∀ l, zrow l ≤ l.length
 | [] => Nat.le_refl _
 | g :: r => by
  unfold zrow
  have := zrow_le r
  split <;> simp only [List.length_cons] <;> omega
theorem zrow_get : ∀ {l : List Nat} {m : Nat}, m ≤ l.length → (∀ j, j < m → l[j]? = some 0) → (m < l.length → l[m]? ≠ some 0) → zrow l = m
 | [], m, h, _, _ => by simp at h; subst h; rfl
 | g :: r, 0, _, _, h => by
  have := h (by simp)
  unfold zrow
  rw [if_neg (fun e => this (by simp [e]))]
 | g :: r, m + 1, hm, h0, h => by
  have hg := h0 0 (by omega)
  unfold zrow
  rw [if_pos (by simpa using hg), zrow_get (by simpa using hm) (fun j hj => by simpa using h0 (j + 1) (by omega)) (fun hl => by simpa using h (by simpa using hl))]
theorem zrow_zero : ∀ {l : List Nat} {j : Nat}, j < zrow l → l[j]? = some 0
 | [], j, h => by simp [zrow] at h
 | g :: r, j, h => by
  unfold zrow at h
  split at h
  ·rename_i hg
   cases j with
   | zero => simp [hg]
   | succ j => simpa using zrow_zero (l := r) (j := j) (by omega)
  ·omega
def lngF (gs : List Nat) : Nat → Nat → Int × Nat → Int × Nat
 | 0, _, y => y
 | k + 1, i, y => lngF gs k (i + 1) (if y.2 < zrow (gs.drop i) then ((i : Int), zrow (gs.drop i)) else y)
theorem lngF_two (gs : List Nat) : ∀ (k i : Nat) (x x' : Int) (m : Nat), 1 ≤ m → (2 ≤ m → x = x') →
  (lngF gs k i (x, m)).2 = (lngF gs k i (x', m)).2 ∧ 1 ≤ (lngF gs k i (x, m)).2 ∧ ((lngF gs k i (x, m)).2 = 1 → lngF gs k i (x, m) = (x, m) ∧ lngF gs k i (x', m) = (x', m)) ∧ (2 ≤ (lngF gs k i (x, m)).2 → (lngF gs k i (x, m)).1 = (lngF gs k i (x', m)).1)
 | 0, i, x, x', m, h1, h2 => ⟨rfl, h1, fun _ => ⟨rfl, rfl⟩, h2⟩
 | k + 1, i, x, x', m, h1, h2 => by
  unfold lngF
  simp only
  by_cases h : m < zrow (gs.drop i)
  ·rw [if_pos h, if_pos h]
   have := lngF_two gs k (i + 1) (i : Int) (i : Int) (zrow (gs.drop i)) (by omega) (fun _ => rfl)
   refine ⟨this.1, this.2.1, fun hh => ?_, this.2.2.2⟩
   have q := (this.2.2.1 hh).1
   rw [q] at hh
   simp only at hh
   omega
  ·rw [if_neg h, if_neg h]
   exact lngF_two gs k (i + 1) x x' m h1 h2
theorem lngF_at (gs : List Nat) (h8 : gs.length = 8) : ∀ (k i : Nat) (x : Int) (m : Nat), i + k ≤ 8 → 1 ≤ m → (2 ≤ m → ∃ q : Nat, x = (q : Int) ∧ q + m ≤ 8 ∧ m ≤ zrow (gs.drop q)) →
  2 ≤ (lngF gs k i (x, m)).2 → ∃ q : Nat, (lngF gs k i (x, m)).1 = (q : Int) ∧ q + (lngF gs k i (x, m)).2 ≤ 8 ∧ (lngF gs k i (x, m)).2 ≤ zrow (gs.drop q)
 | 0, i, x, m, _, _, h, h2 => h h2
 | k + 1, i, x, m, hk, h1, h, h2 => by
  unfold lngF at h2 ⊢
  simp only at h2 ⊢
  by_cases hc : m < zrow (gs.drop i)
  ·rw [if_pos hc] at h2 ⊢
   refine lngF_at gs h8 k (i + 1) _ _ (by omega) (by omega) (fun _ => ⟨i, rfl, ?_, Nat.le_refl _⟩) h2
   have := zrow_le (gs.drop i)
   rw [List.length_drop] at this
   omega
  ·rw [if_neg hc] at h2 ⊢
   exact lngF_at gs h8 k (i + 1) x m (by omega) h1 h h2
theorem join_snoc (c : UInt8) : ∀ (xs : List (List UInt8)) (x : List UInt8), Lib.join (xs ++ [x]) [c] = if xs = [] then x else Lib.join xs [c] ++ c :: x
 | [], x => by rw [List.nil_append, Lib.join_one, if_pos rfl]
 | [y], x => by rw [if_neg (by simp), List.cons_append, List.nil_append, join_cons2, Lib.join_one, Lib.join_one]
 | y :: z :: r, x => by
  have := join_snoc c (z :: r) x
  rw [if_neg (by simp)] at this
  rw [if_neg (by simp), List.cons_append, List.cons_append, join_cons2, join_cons2, ← List.cons_append, this, List.append_assoc]
  rfl
theorem joinG_snoc (gs : List Nat) (g : Nat) : joinG (gs ++ [g]) = if gs = [] then hex4 g else joinG gs ++ 58 :: hex4 g := by
 unfold joinG
 rw [List.map_append, List.map_cons, List.map_nil, join_snoc]
 by_cases h : gs = []
 ·rw [if_pos h, if_pos (by rw [h]; rfl)]
 ·rw [if_neg h, if_neg (by simpa using h)]
theorem joinG_last {gs : List Nat} (h : ∀ g ∈ gs, g < 65536) (h0 : gs ≠ []) : ∃ l b, joinG gs = l ++ [b] ∧ b ≠ 58 := by
 obtain ⟨l', g, rfl⟩ : ∃ l' b, gs = l' ++ [b] := ⟨gs.dropLast, gs.getLast h0, (List.dropLast_concat_getLast h0).symm⟩
 obtain ⟨_, h2, _, h4⟩ := hex4_read g (h g (by simp))
 have hn : hex4 g ≠ [] := by intro e; rw [e] at h2; simp at h2
 obtain ⟨m, b, hm⟩ : ∃ m b, hex4 g = m ++ [b] := ⟨(hex4 g).dropLast, (hex4 g).getLast hn, (List.dropLast_concat_getLast hn).symm⟩
 have hb : b ≠ 58 := (h4 b (by rw [hm]; simp)).2.1
 rw [joinG_snoc, hm]
 by_cases hl : l' = []
 ·rw [if_pos hl]
  exact ⟨m, b, rfl, hb⟩
 ·rw [if_neg hl]
  exact ⟨joinG l' ++ 58 :: m, b, by simp, hb⟩
end Go.Ma
namespace Go.Ma
open Go
theorem catB (x y : List UInt8) : catS (ofBytes x) (ofBytes y) = ofBytes (x ++ y) := cat_lists x y
theorem roomB (x : List UInt8) (h : x.length ≤ 9223372036854775807) : roomS (ofBytes x) = true := room_list x h
theorem lenB (x : List UInt8) : lenS (ofBytes x) = (x.length : Int) := by unfold lenS; rw [ofBytes_size]
theorem empB : (ByteArray.empty : ByteArray) = ofBytes [] := rfl
theorem ofBytes_inj {x y : List UInt8} (h : ofBytes x = ofBytes y) : x = y := by
 have := congrArg (fun s : ByteArray => s.data.toList) h
 simpa [ofBytes] using this
theorem subB (x : List UInt8) (i j : Nat) : subS (ofBytes x) (i : Int) (j : Int) = ofBytes ((x.take j).drop i) := by
 apply ByteArray.ext
 simp only [subS, ofBytes, ByteArray.data_extract, Int.toNat_natCast]
 apply Array.ext'
 simp [List.drop_take]
theorem get_byte {x : List UInt8} {i : Nat} {b : UInt8} (h : x[i]? = some b) : byteAt (ofBytes x) (i : Int) = (b.toNat : Int) := byteAt_eq (by rw [ofBytes_list]; exact h)
theorem conv_byte (b : UInt8) : convI .i64 (b.toNat : Int) = (b.toNat : Int) := by
 have := b.toNat_lt
 exact wrap_i64 (by omega) (by omega)
theorem rem_nat (n b : Nat) : aop .rem .i64 (n : Int) (b : Int) = ((n % b : Nat) : Int) := by
 simp only [aop]
 exact (Int.ofNat_tmod n b).symm
theorem quo_nat (n b : Nat) (h : n < 9223372036854775808) : aop .quo .i64 (n : Int) (b : Int) = ((n / b : Nat) : Int) := by
 have h1 := Nat.div_le_self n b
 simp only [aop]
 rw [show ((n : Int).tdiv (b : Int)) = ((n / b : Nat) : Int) from (Int.ofNat_tdiv n b).symm]
 generalize n / b = q at h1
 exact wrap_i64 (by omega) (by omega)
def dig16 : ByteArray := ⟨#[48, 49, 50, 51, 52, 53, 54, 55, 56, 57, 97, 98, 99, 100, 101, 102]⟩
theorem dig_sub (d : Nat) (h : d < 16) : subS dig16 (d : Int) ((d : Int) + 1) = ofBytes [hexD d] := by
 have : ∀ d : Fin 16, subS dig16 ((d.val : Nat) : Int) (((d.val : Nat) : Int) + 1) = ofBytes [hexD d.val] := by decide +kernel
 exact this ⟨d, h⟩
def digF (b : Nat) : Nat → Nat → List UInt8
 | 0, _ => []
 | k + 1, n => if n < b then [hexD n] else digF b k (n / b) ++ [hexD (n % b)]
theorem digF_len (b : Nat) : ∀ k n, (digF b k n).length ≤ k
 | 0, n => Nat.le_refl _
 | k + 1, n => by
  unfold digF
  have := digF_len b k (n / b)
  split <;> simp <;> omega
theorem Digits_fuel {b : Nat} (h2 : 2 ≤ b) (h16 : b ≤ 16) : ∀ (k n j : Nat), n < b ^ k → 1 ≤ k → k ≤ 1000 → n < 9223372036854775808 → R_Digits_fuel (k + j) (n : Int) (b : Int) = some (ofBytes (digF b k n), ()) := by
 intro k
 induction k with
 | zero => intro n j _ h1; omega
 | succ k ih =>
  intro n j hn _ hk hbig
  rw [show k + 1 + j = (k + j) + 1 by omega]
  show R_Digits_step (R_Digits_fuel (k + j)) (n : Int) (b : Int) = _
  unfold R_Digits_step
  have e1 : aop .rem .i64 (n : Int) (b : Int) = ((n % b : Nat) : Int) := rem_nat n b
  have e2 : aop .quo .i64 (n : Int) (b : Int) = ((n / b : Nat) : Int) := by
   exact quo_nat n b (by omega)
  have hlt : n % b < b := Nat.mod_lt _ (by omega)
  have hb0 : ¬ ((b : Int) = 0) := by omega
  have hl : lenS (⟨#[48, 49, 50, 51, 52, 53, 54, 55, 56, 57, 97, 98, 99, 100, 101, 102]⟩ : ByteArray) = 16 := rfl
  have hsub := dig_sub (n % b) (by omega)
  unfold dig16 at hsub
  rw [e1, e2, hl, hsub, decide_eq_false hb0, Bool.not_false, req_true, req_true, req_of (i64ok_of (by omega) (by omega))]
  rw [req_of (by rw [Bool.and_eq_true, Bool.and_eq_true, decide_eq_true_iff, decide_eq_true_iff, decide_eq_true_iff]; omega), req_true]
  unfold digF
  by_cases h : n < b
  ·rw [decide_eq_true (show (n : Int) < (b : Int) by omega), br_true, if_pos h, Nat.mod_eq_of_lt h]
  ·rw [decide_eq_false (show ¬ (n : Int) < (b : Int) by omega), br_false, if_neg h]
   have hn2 : n / b < b ^ k := by
    rw [Nat.div_lt_iff_lt_mul (by omega), ← Nat.pow_succ]
    exact hn
   have hk1 : 1 ≤ k := by
    cases k with
    | zero => simp at hn; omega
    | succ k => omega
   have := Nat.div_le_self n b
   rw [ih (n / b) j hn2 hk1 (by omega) (by omega), bind_s]
   simp only [catB]
   have := digF_len b k (n / b)
   rw [req_of (roomB _ (by simp; omega))]
theorem Digits_t {b n k : Nat} (h2 : 2 ≤ b) (h16 : b ≤ 16) (hn : n < b ^ k) (hk : 1 ≤ k) (hk2 : k ≤ 60) (hbig : n < 9223372036854775808) : R_Digits_t (n : Int) (b : Int) = some (ofBytes (digF b k n), ()) := by
 have := Digits_fuel h2 h16 k n (300 - k) hn hk (by omega) hbig
 rw [show k + (300 - k) = 300 by omega] at this
 exact this
theorem digF_dec : ∀ (k n : Nat), n < 10 ^ k → 1 ≤ k → digF 10 k n = Lib.decDigits n
 | 0, n, _, h => by omega
 | k + 1, n, hn, _ => by
  unfold digF
  rw [Lib.decDigits]
  have hd : ∀ d, d < 10 → hexD d = UInt8.ofNat (48 + d) := fun d hd => by unfold hexD; rw [if_pos hd]
  by_cases h : n < 10
  ·rw [if_pos h, dif_pos h, hd n h]
  ·have hn2 : n / 10 < 10 ^ k := by
    rw [Nat.div_lt_iff_lt_mul (by omega), ← Nat.pow_succ]
    exact hn
   have hk1 : 1 ≤ k := by
    cases k with
    | zero => simp at hn; omega
    | succ k => omega
   rw [if_neg h, dif_neg h, digF_dec k (n / 10) hn2 hk1, hd (n % 10) (by omega)]
theorem Digits_dec {n : Nat} (h : n < 1000000) : R_Digits_t (n : Int) 10 = some (ofBytes (Lib.decDigits n), ()) := by
 have := Digits_t (b := 10) (n := n) (k := 6) (by omega) (by omega) (by omega) (by omega) (by omega) (by omega)
 rw [digF_dec 6 n (by omega) (by omega)] at this
 exact this
theorem digF_hex {n : Nat} (h : n < 65536) : digF 16 4 n = hex4 n := by
 unfold hex4
 simp only [digF]
 have e1 : n / 16 / 16 = n / 256 := by omega
 have e2 : n / 256 / 16 = n / 4096 := by omega
 rw [e1, e2]
 by_cases h1 : n < 16
 ·rw [if_pos h1, if_pos h1]
 rw [if_neg h1, if_neg h1]
 by_cases h2 : n < 256
 ·rw [if_pos h2, if_pos (by omega)]
  rfl
 rw [if_neg h2, if_neg (by omega)]
 by_cases h3 : n < 4096
 ·rw [if_pos h3, if_pos (by omega)]
  rfl
 rw [if_neg h3, if_neg (by omega), if_pos (by omega)]
 rfl
theorem Digits_hex {n : Nat} (h : n < 65536) : R_Digits_t (n : Int) 16 = some (ofBytes (hex4 n), ()) := by
 have := Digits_t (b := 16) (n := n) (k := 4) (by omega) (by omega) (by omega) (by omega) (by omega) (by omega)
 rw [digF_hex h] at this
 exact this
theorem Digits_bit {n : Nat} (h : n < 2) : R_Digits_t (n : Int) 2 = some (ofBytes [bitV n 0], ()) := by
 have := Digits_t (b := 2) (n := n) (k := 1) (by omega) (by omega) (by omega) (by omega) (by omega) (by omega)
 rw [show ((2 : Nat) : Int) = 2 from rfl] at this
 rw [this]
 have : n = 0 ∨ n = 1 := by omega
 rcases this with rfl | rfl <;> decide +kernel
theorem bitsOf_fuel : ∀ (k n j : Nat), k ≤ 100 → n < 9223372036854775808 → R_bitsOf_fuel (k + 1 + j) (n : Int) (k : Int) = some (ofBytes (bitsTo n (k - 1) k), ()) := by
 intro k
 induction k with
 | zero =>
  intro n j _ _
  rw [show 0 + 1 + j = j + 1 by omega]
  show R_bitsOf_step _ _ _ = _
  unfold R_bitsOf_step
  rfl
 | succ k ih =>
  intro n j hk hn
  rw [show k + 1 + 1 + j = (k + 1 + j) + 1 by omega]
  show R_bitsOf_step (R_bitsOf_fuel (k + 1 + j)) (n : Int) ((k + 1 : Nat) : Int) = _
  unfold R_bitsOf_step
  have e1 : aop .rem .i64 (n : Int) 2 = ((n % 2 : Nat) : Int) := rem_nat n 2
  have e2 : aop .quo .i64 (n : Int) 2 = ((n / 2 : Nat) : Int) := by
   exact quo_nat n 2 (by omega)
  rw [decide_eq_false (show ¬ ((k + 1 : Nat) : Int) = 0 by omega), br_false, req_of (i64ok_of (by omega) (by omega)), e1, e2, show ((k + 1 : Nat) : Int) - 1 = (k : Int) by omega, ih (n / 2) j (by omega) (by omega), bind_s, Digits_bit (by omega), bind_s]
  simp only [catB]
  rw [req_of (roomB _ (by simp [zq3]; omega))]
  have := bits_cat (n / 2) (n % 2) k 1 (by omega)
  rw [show n / 2 * 2 ^ 1 + n % 2 = n by omega, show k + 1 - 1 = k by omega] at this
  rw [show k + 1 - 1 = k by omega, this]
  rfl
theorem bitsOf_t {n k : Nat} (hk : k ≤ 100) (hn : n < 9223372036854775808) : R_bitsOf_t (n : Int) (k : Int) = some (ofBytes (bitsTo n (k - 1) k), ()) := by
 have := bitsOf_fuel k n (300 - (k + 1)) hk hn
 rw [show k + 1 + (300 - (k + 1)) = 300 by omega] at this
 exact this
theorem numberOf_t {n k : Nat} (hn : n < 2 ^ k) (hk : k ≤ 60) : R_numberOf_t (ofBytes (bitsTo n (k - 1) k)) = some ((n : Int), ()) := by
 have hlen : (ofBytes (bitsTo n (k - 1) k)).size = k := by rw [ofBytes_size, zq3]
 unfold R_numberOf_t
 generalize hs : ofBytes (bitsTo n (k - 1) k) = s at hlen ⊢
 have := loop_up (step := R_numberOf_L3) (fun i => (((s, ()), (((n / 2 ^ (k - i) : Nat) : Int), ()), ((i : Int), ()), ()), ())) k (fun _ => some ((((n : Int), ()), ()), ())) (fun rec i hi hr => ?_) (fun rec => ?_) FUEL 0 (Nat.zero_le _) (fuel_gt (by omega))
 ·rw [show n / 2 ^ (k - 0) = 0 from Nat.div_eq_of_lt hn] at this
  rw [show ((0 : Nat) : Int) = 0 from rfl] at this
  rw [this, bind_s]
 ·have hb : s.data.toList[i]? = some (bitV n (k - 1 - i)) := by rw [← hs, ofBytes_list, zq2, if_pos hi]
  have hd := div_step n (k - (i + 1))
  rw [show k - (i + 1) + 1 = k - i by omega] at hd
  have hle : n / 2 ^ (k - i) ≤ n := Nat.div_le_self _ _
  have hp : 2 ^ k ≤ 2 ^ 60 := Nat.pow_le_pow_right (by omega) hk
  have hbv : ((bitV n (k - 1 - i)).toNat : Int) = 48 + ((if n.testBit (k - 1 - i) then 1 else 0 : Nat) : Int) := by unfold bitV; cases n.testBit (k - 1 - i) <;> decide
  rw [show k - (i + 1) = k - 1 - i by omega] at hd
  simp only [R_numberOf_L3]
  rw [decide_eq_true (show (i : Int) < lenS s by unfold lenS; omega), br_true, byteAt_eq hb, conv_byte, hbv, req_of (inRange_of (by omega) (by unfold lenS; omega))]
  have ht : (if n.testBit (k - 1 - i) then 1 else 0 : Nat) ≤ 1 := by split <;> omega
  generalize (if n.testBit (k - 1 - i) then 1 else 0 : Nat) = t at hd ht ⊢
  rw [req_of (i64ok_of (by omega) (by omega)), req_of (i64ok_of (by omega) (by omega)), req_of (i64ok_of (by omega) (by omega)), req_of (i64ok_of (by omega) (by omega))]
  rw [show 2 * ((n / 2 ^ (k - i) : Nat) : Int) + (48 + (t : Int)) - 48 = ((n / 2 ^ (k - (i + 1)) : Nat) : Int) by rw [show k - (i + 1) = k - 1 - i by omega]; omega, show (i : Int) + 1 = ((i + 1 : Nat) : Int) by omega, hr]
 ·simp only [R_numberOf_L3]
  rw [decide_eq_false (show ¬ (k : Int) < lenS s by unfold lenS; omega), br_false, Nat.sub_self, Nat.pow_zero, Nat.div_one]
theorem splitAt_loop (c : UInt8) (s : ByteArray) (hs : s.size ≤ 1048576) : ∀ (N i : Nat) (w : List UInt8) (out : List ByteArray), s.size - i < N → i ≤ s.size → w.length ≤ i → out.length ≤ i →
  loopN R_splitAt_L4 N (((s, ()), ((c.toNat : Int), ()), (()), (ofBytes w, ()), ((i : Int), ()), ()), (out, ())) = some (((), (ofBytes (splW c w (s.data.toList.drop i)), ()), ()), (out ++ (splF c w (s.data.toList.drop i)).map ofBytes, ())) := by
 intro N
 induction N with
 | zero => intro i w out h; omega
 | succ N ih =>
  intro i w out hN hi hw ho
  rw [zq6]
  simp only [R_splitAt_L4]
  by_cases h : i = s.size
  ·rw [decide_eq_false (show ¬ (i : Int) < lenS s by unfold lenS; omega), br_false, List.drop_of_length_le (by rw [data_len]; omega)]
   simp [splW, splF]
  ·obtain ⟨b, hb⟩ : ∃ b, s.data.toList[i]? = some b := ⟨_, List.getElem?_eq_getElem (by rw [data_len]; omega)⟩
   rw [decide_eq_true (show (i : Int) < lenS s by unfold lenS; omega), br_true, req_of (inRange_of (by omega) (by unfold lenS; omega)), byteAt_eq hb, drop_cons hb]
   have hbc : decide ((b.toNat : Int) = (c.toNat : Int)) = decide (b = c) := by
    refine decide_eq_decide.2 ⟨fun h => UInt8.toNat_inj.1 (by omega), fun h => by rw [h]⟩
   rw [hbc]
   by_cases hc : b = c
   ·rw [decide_eq_true hc, br_true, req_of (room_of (lenL_nonneg _) (lenL_nonneg _) (by simp only [lenL, List.length_cons, List.length_nil]; omega)), req_of (i64ok_of (by omega) (by omega)), show (i : Int) + 1 = ((i + 1 : Nat) : Int) by omega, empB, ih (i + 1) [] _ (by omega) (by omega) (by simp) (by simp; omega)]
    simp [splW, splF, hc]
   ·have hsub : subS s (i : Int) ((i : Int) + 1) = ofBytes [b] := by
     have := subB s.data.toList i (i + 1)
     rw [ofBytes_data] at this
     rw [show (i : Int) + 1 = ((i + 1 : Nat) : Int) by omega, this]
     congr 1
     rw [List.drop_take, show i + 1 - i = 1 by omega, drop_cons hb]
     rfl
    rw [decide_eq_false hc, br_false, hsub, catB, req_of (i64ok_of (by omega) (by omega)), req_of (by rw [Bool.and_eq_true, Bool.and_eq_true, decide_eq_true_iff, decide_eq_true_iff, decide_eq_true_iff]; unfold lenS; omega), req_of (roomB _ (by simp; omega)), req_of (i64ok_of (by omega) (by omega)), show (i : Int) + 1 = ((i + 1 : Nat) : Int) by omega, ih (i + 1) (w ++ [b]) _ (by omega) (by omega) (by simp; omega) (by omega)]
    simp [splW, splF, hc]
theorem splitAt_t (c : UInt8) (s : ByteArray) (hs : s.size ≤ 1048576) : R_splitAt_t s (c.toNat : Int) = some ((splL c [] s.data.toList).map ofBytes, ()) := by
 unfold R_splitAt_t
 have := splitAt_loop c s hs FUEL 0 [] [] (fuel_gt (by omega)) (by omega) (by simp) (by simp)
 rw [List.drop_zero, List.nil_append] at this
 rw [empB, show (0 : Int) = ((0 : Nat) : Int) from rfl, this, bind_s]
 have hl := splF_len c s.data.toList []
 rw [data_len] at hl
 simp only
 rw [req_of (room_of (lenL_nonneg _) (lenL_nonneg _) (by simp only [lenL, List.length_map, List.length_cons, List.length_nil]; omega))]
 simp [splL]
def groupA (l : List UInt8) : ByteArray × Bool × Unit := match groupR l with | some n => (ofBytes (bitsTo n 15 16), true, ()) | none => (ByteArray.empty, false, ())
theorem hexF_cons' (c : UInt8) (r : List UInt8) (a : Nat) (ha : a < 65536) : hexF (c :: r) a = match hexR c with | none => none | some d => hexF r (a * 16 + d) := by
 rw [hexF, hexv_eq]
 cases h : hexR c with
 | none => rfl
 | some d =>
  have := hexR_lt h
  simp only
  rw [if_neg (by omega)]
theorem groupOf_loop (s : ByteArray) (hs : s.size ≤ 4) : ∀ (N i a : Nat), s.size - i < N → i ≤ s.size → a < 16 ^ i →
  loopN R_groupOf_L5 N (((s, ()), ((a : Int), ()), ((i : Int), ()), ()), ()) = some (match hexF (s.data.toList.drop i) a with | some n => Sum.inr ((((n : Int), ()), ()), ()) | none => Sum.inl (((ByteArray.empty, ()), (false, ()), ()), ())) := by
 intro N
 induction N with
 | zero => intro i a h; omega
 | succ N ih =>
  intro i a hN hi ha
  have hp : 16 ^ i ≤ 16 ^ 4 := Nat.pow_le_pow_right (by omega) (by omega)
  rw [zq6]
  simp only [R_groupOf_L5]
  by_cases h : i = s.size
  ·rw [decide_eq_false (show ¬ (i : Int) < lenS s by unfold lenS; omega), br_false, List.drop_of_length_le (by rw [data_len]; omega)]
   rfl
  ·obtain ⟨b, hb⟩ : ∃ b, s.data.toList[i]? = some b := ⟨_, List.getElem?_eq_getElem (by rw [data_len]; omega)⟩
   have hp3 : 16 ^ i ≤ 16 ^ 3 := Nat.pow_le_pow_right (by omega) (by omega)
   rw [decide_eq_true (show (i : Int) < lenS s by unfold lenS; omega), br_true, req_of (inRange_of (by omega) (by unfold lenS; omega)), byteAt_eq hb, conv_byte, drop_cons hb, hexF_cons' _ _ _ (by omega)]
   have hbl := b.toNat_lt
   have hpw : 16 ^ (i + 1) = 16 * 16 ^ i := by rw [Nat.pow_succ, Nat.mul_comm]
   simp only [R_between_eq, bind_s]
   unfold hexR
   by_cases h1 : 48 ≤ b.toNat ∧ b.toNat ≤ 57
   ·rw [if_pos h1, show betw (b.toNat : Int) 48 57 = true from betw_iff.2 ⟨by omega, by omega⟩, br_true, req_of (i64ok_of (by omega) (by omega)), req_of (i64ok_of (by omega) (by omega)), req_of (i64ok_of (by omega) (by omega)), req_of (i64ok_of (by omega) (by omega))]
    rw [show 16 * (a : Int) + (b.toNat : Int) - 48 = ((a * 16 + (b.toNat - 48) : Nat) : Int) by omega, show (i : Int) + 1 = ((i + 1 : Nat) : Int) by omega]
    exact ih (i + 1) _ (by omega) (by omega) (by omega)
   ·rw [if_neg h1, show betw (b.toNat : Int) 48 57 = false from Bool.eq_false_iff.2 fun hh => h1 (by have := betw_iff.1 hh; omega), br_false]
    by_cases h2 : 97 ≤ b.toNat ∧ b.toNat ≤ 102
    ·rw [if_pos h2, show betw (b.toNat : Int) 97 102 = true from betw_iff.2 ⟨by omega, by omega⟩, br_true, req_of (i64ok_of (by omega) (by omega)), req_of (i64ok_of (by omega) (by omega)), req_of (i64ok_of (by omega) (by omega)), req_of (i64ok_of (by omega) (by omega)), req_of (i64ok_of (by omega) (by omega))]
     rw [show 16 * (a : Int) + (b.toNat : Int) - 97 + 10 = ((a * 16 + (b.toNat - 97 + 10) : Nat) : Int) by omega, show (i : Int) + 1 = ((i + 1 : Nat) : Int) by omega]
     exact ih (i + 1) _ (by omega) (by omega) (by omega)
    ·rw [if_neg h2, show betw (b.toNat : Int) 97 102 = false from Bool.eq_false_iff.2 fun hh => h2 (by have := betw_iff.1 hh; omega), br_false]
     by_cases h3 : 65 ≤ b.toNat ∧ b.toNat ≤ 70
     ·rw [if_pos h3, show betw (b.toNat : Int) 65 70 = true from betw_iff.2 ⟨by omega, by omega⟩, br_true, req_of (i64ok_of (by omega) (by omega)), req_of (i64ok_of (by omega) (by omega)), req_of (i64ok_of (by omega) (by omega)), req_of (i64ok_of (by omega) (by omega)), req_of (i64ok_of (by omega) (by omega))]
      rw [show 16 * (a : Int) + (b.toNat : Int) - 65 + 10 = ((a * 16 + (b.toNat - 65 + 10) : Nat) : Int) by omega, show (i : Int) + 1 = ((i + 1 : Nat) : Int) by omega]
      exact ih (i + 1) _ (by omega) (by omega) (by omega)
     ·rw [if_neg h3, show betw (b.toNat : Int) 65 70 = false from Bool.eq_false_iff.2 fun hh => h3 (by have := betw_iff.1 hh; omega), br_false]
theorem groupOf_t (s : ByteArray) (hs : s.size ≤ 1048576) : R_groupOf_t s = some (groupA s.data.toList) := by
 unfold R_groupOf_t groupA groupR
 rw [R_between_eq, bind_s, data_len]
 by_cases h : 1 ≤ s.size ∧ s.size ≤ 4
 ·rw [if_pos h]
  have hb : betw (lenS s) 1 4 = true := betw_iff.2 ⟨by unfold lenS; omega, by unfold lenS; omega⟩
  have := groupOf_loop s h.2 FUEL 0 0 (fuel_gt (by omega)) (by omega) (by decide)
  rw [List.drop_zero] at this
  simp only [hb, Bool.not_true, br_false]
  rw [show (0 : Int) = ((0 : Nat) : Int) from rfl, this, bind_s]
  cases hF : hexF s.data.toList 0 with
  | none => rfl
  | some n =>
   have hn := (hexF_facts _ _ _ hF).1
   rw [data_len] at hn
   have hp : 16 ^ s.size ≤ 16 ^ 4 := Nat.pow_le_pow_right (by omega) h.2
   have hbo := bitsOf_t (n := n) (k := 16) (by omega) (by omega)
   rw [show ((16 : Nat) : Int) = 16 from rfl] at hbo
   simp only [sumC]
   rw [hbo, bind_s]
 ·rw [if_neg h]
  have hb : betw (lenS s) 1 4 = false := Bool.eq_false_iff.2 fun hh => h (by have := betw_iff.1 hh; unfold lenS at this; omega)
  simp only [hb, Bool.not_false, br_true]
def decO (l : List UInt8) (a : Nat) : Option Nat := match l with
 | [] => some a
 | c :: r => match Lib.digitVal c with
  | none => none
  | some d => if 255 < a then none else decO r (a * 10 + d)
theorem decO_lt : ∀ (l : List UInt8) (a n : Nat), a < 2560 → decO l a = some n → n < 2560
 | [], a, n, ha, h => by
  simp only [decO, Option.some.injEq] at h
  omega
 | c :: r, a, n, ha, h => by
  rw [decO] at h
  cases hc : Lib.digitVal c with
  | none => rw [hc] at h; cases h
  | some d =>
   rw [hc] at h
   simp only at h
   split at h
   ·cases h
   ·have := (digitVal_some hc).1
    exact decO_lt r _ n (by omega) h
theorem decO_from : ∀ (l : List UInt8) (a : Nat), (∀ n, decO l a = some n → Lib.decFrom a l = some n) ∧ (∀ n, Lib.decFrom a l = some n → n ≤ 255 → decO l a = some n)
 | [], a => ⟨fun n h => h, fun n h _ => h⟩
 | c :: r, a => by
  obtain ⟨i1, i2⟩ := decO_from r (a * 10 + (Lib.digitVal c).getD 0)
  rw [decO, Lib.decFrom]
  cases hc : Lib.digitVal c with
  | none => exact ⟨fun n h => (by cases h), fun n h => (by cases h)⟩
  | some d =>
   rw [hc] at i1 i2
   simp only [Option.getD_some] at i1 i2
   simp only
   refine ⟨fun n h => ?_, fun n h hn => ?_⟩
   ·split at h
    ·cases h
    ·exact i1 n h
   ·have := decFrom_ge r _ n h
    rw [if_neg (by omega)]
    exact i2 n h hn
theorem octO (l : List UInt8) : octR l = match decO l 0 with
  | none => none
  | some n => if l = [] ∨ 255 < n then none else if Lib.decDigits n = l then some n else none := by
 unfold octR
 obtain ⟨h1, h2⟩ := decO_from l 0
 by_cases h0 : l = []
 ·subst h0
  simp [decO]
 rw [if_neg h0]
 cases hF : Lib.decFrom 0 l with
 | none =>
  cases hO : decO l 0 with
  | none => rfl
  | some n => rw [h1 n hO] at hF; cases hF
 | some m =>
  simp only
  cases hO : decO l 0 with
  | none =>
   simp only
   rw [if_neg]
   rintro ⟨hm, _⟩
   rw [h2 m hF hm] at hO
   cases hO
  | some n =>
   have := h1 n hO
   rw [hF] at this
   injection this with this
   subst this
   simp only [h0, false_or]
   by_cases hm : 255 < m
   ·rw [if_pos hm, if_neg (by omega)]
   ·rw [if_neg hm]
    by_cases hd : Lib.decDigits m = l
    ·rw [if_pos hd, if_pos ⟨by omega, hd⟩]
    ·rw [if_neg hd, if_neg (fun hh => hd hh.2)]
theorem fourOf_inner (B : ByteArray) (k : Nat) (l : List ByteArray) (x : List UInt8) (hx : l[k]? = some (ofBytes x)) (hk : l.length = 4) (hxl : x.length ≤ 1048576) : ∀ (N i a : Nat), x.length - i < N → i ≤ x.length → a < 2560 →
  loopN R_fourOf_L10 N (((), (B, ()), ((k : Int), ()), ((a : Int), ()), ((i : Int), ()), ()), (l, ())) = some (match decO (x.drop i) a with | some n => Sum.inr (((), (B, ()), ((k : Int), ()), ((n : Int), ()), ()), (l, ())) | none => Sum.inl (((ByteArray.empty, ()), (false, ()), ()), ())) := by
 intro N
 induction N with
 | zero => intro i a h; omega
 | succ N ih =>
  intro i a hN hi ha
  have hkl : k < l.length := (List.getElem?_eq_some_iff.1 hx).1
  rw [zq6]
  simp only [R_fourOf_L10]
  rw [req_of (inRange_of (by omega) (by unfold lenL; omega)), geti_at hx, bind_s, lenB]
  by_cases h : i = x.length
  ·rw [decide_eq_false (show ¬ (i : Int) < (x.length : Int) by omega), br_false, List.drop_of_length_le (by omega)]
   rfl
  ·obtain ⟨b, hb⟩ : ∃ b, x[i]? = some b := ⟨_, List.getElem?_eq_getElem (by omega)⟩
   have hbl := b.toNat_lt
   rw [decide_eq_true (show (i : Int) < (x.length : Int) by omega), br_true]
   simp only [bind_s, req_of (inRange_of (i := (k : Int)) (n := lenL l) (by omega) (by unfold lenL; omega)), lenB, req_of (inRange_of (i := (i : Int)) (n := (x.length : Int)) (by omega) (by omega)), get_byte hb, conv_byte, R_between_eq]
   rw [drop_cons hb, decO]
   unfold Lib.digitVal
   by_cases h1 : 48 ≤ b.toNat ∧ b.toNat ≤ 57
   ·rw [if_pos h1, show betw (b.toNat : Int) 48 57 = true from betw_iff.2 ⟨by omega, by omega⟩, Bool.not_true, br_false, bind_s]
    simp only
    by_cases h2 : 255 < a
    ·rw [if_pos h2, decide_eq_true (show (a : Int) > 255 by omega), br_true]
    ·rw [if_neg h2, decide_eq_false (show ¬ (a : Int) > 255 by omega), br_false, req_of (i64ok_of (by omega) (by omega)), req_of (i64ok_of (by omega) (by omega)), req_of (i64ok_of (by omega) (by omega)), req_of (i64ok_of (by omega) (by omega))]
     rw [show 10 * (a : Int) + (b.toNat : Int) - 48 = ((a * 10 + (b.toNat - 48) : Nat) : Int) by omega, show (i : Int) + 1 = ((i + 1 : Nat) : Int) by omega]
     exact ih (i + 1) _ (by omega) (by omega) (by omega)
   ·rw [if_neg h1, show betw (b.toNat : Int) 48 57 = false from Bool.eq_false_iff.2 fun hh => h1 (by have := betw_iff.1 hh; omega), Bool.not_false, br_true, bind_s, br_true]
def fourB : List (List UInt8) → List UInt8 → Option (List UInt8)
 | [], w => some w
 | x :: r, w => match octR x with
  | none => none
  | some u => fourB r (w ++ bitsTo u 7 8)
theorem fourOf_loop (l : List (List UInt8)) (h4 : l.length = 4) (hl : ∀ x ∈ l, x.length ≤ 1048576) : ∀ (N k : Nat) (w : List UInt8), 4 - k < N → k ≤ 4 → w.length ≤ 8 * k →
  loopN R_fourOf_L6 N (((), (ofBytes w, ()), ((k : Int), ()), ()), (l.map ofBytes, ())) = some (match fourB (l.drop k) w with | some n => Sum.inr (((ofBytes n, ()), ()), ()) | none => Sum.inl (((ByteArray.empty, ()), (false, ()), ()), ())) := by
 intro N
 induction N with
 | zero => intro k w h; omega
 | succ N ih =>
  intro k w hN hk hw
  rw [zq6]
  simp only [R_fourOf_L6]
  by_cases h : k = 4
  ·rw [decide_eq_false (show ¬ (k : Int) < 4 by omega), br_false, List.drop_of_length_le (by omega)]
   rfl
  ·obtain ⟨x, hx⟩ : ∃ x, l[k]? = some x := ⟨_, List.getElem?_eq_getElem (by omega)⟩
   have hx2 : (l.map ofBytes)[k]? = some (ofBytes x) := by rw [List.getElem?_map, hx]; rfl
   have hxl := hl x (List.mem_of_getElem? hx)
   have hin := fourOf_inner (ofBytes w) k (l.map ofBytes) x hx2 (by rw [List.length_map]; exact h4) hxl FUEL 0 0 (fuel_gt (by omega)) (by omega) (by omega)
   rw [List.drop_zero] at hin
   rw [decide_eq_true (show (k : Int) < 4 by omega), br_true, show (0 : Int) = ((0 : Nat) : Int) from rfl, hin, bind_s, drop_cons hx, fourB, octO]
   cases hO : decO x 0 with
   | none => rfl
   | some n =>
    have hn := decO_lt x 0 n (by omega) hO
    simp only [sumC]
    rw [req_of (inRange_of (by omega) (by unfold lenL; rw [List.length_map]; omega)), geti_at hx2, bind_s]
    rw [strcmp_eql, empB]
    by_cases h0 : x = []
    ·rw [if_pos (.inl h0), decide_eq_true (by rw [h0]), br_true, bind_s, br_true, bind_s, br_true]
    ·rw [decide_eq_false (fun hh => h0 (ofBytes_inj hh)), br_false, bind_s]
     by_cases h255 : 255 < n
     ·rw [if_pos (.inr h255), decide_eq_true (show (n : Int) > 255 by omega), br_true, bind_s, br_true]
     ·rw [if_neg (fun hh => hh.elim h0 h255), decide_eq_false (show ¬ (n : Int) > 255 by omega), br_false, Digits_dec (by omega), bind_s]
      rw [req_of (inRange_of (by omega) (by unfold lenL; rw [List.length_map]; omega)), bind_s, bind_s, strcmp_neq]
      by_cases hd : Lib.decDigits n = x
      ·rw [if_pos hd, decide_eq_true (by rw [hd]), Bool.not_true, br_false]
       have hbo := bitsOf_t (n := n) (k := 8) (by omega) (by omega)
       rw [show ((8 : Nat) : Int) = 8 from rfl] at hbo
       rw [hbo, bind_s]
       simp only [catB]
       rw [req_of (roomB _ (by simp [zq3]; omega)), req_of (i64ok_of (by omega) (by omega)), show (k : Int) + 1 = ((k + 1 : Nat) : Int) by omega]
       exact ih (k + 1) _ (by omega) (by omega) (by simp [zq3]; omega)
      ·rw [if_neg hd, decide_eq_false (fun hh => hd (ofBytes_inj hh)), Bool.not_false, br_true]
theorem fourB_eq : ∀ (l : List (List UInt8)) (n j : Nat), fourB l (bitsTo n (j - 1) j) = (fourR l n).map fun (m : Nat) => bitsTo m (j + 8 * l.length - 1) (j + 8 * l.length)
 | [], n, j => rfl
 | x :: l, n, j => by
  rw [fourB, fourR]
  cases ho : octR x with
  | none => rfl
  | some u =>
   have hu := (octR_some ho).1
   have := bits_cat n u j 8 (by omega)
   simp only
   rw [← this, show j + 8 - 1 = (j + 8) - 1 from rfl, show n * 2 ^ 8 + u = n * 256 + u by omega, fourB_eq l _ (j + 8), List.length_cons, show j + 8 + 8 * l.length = j + 8 * (l.length + 1) by omega]
def fourA (l : List UInt8) : ByteArray × Bool × Unit := match fourV l with | some n => (ofBytes (bitsTo n 31 32), true, ()) | none => (ByteArray.empty, false, ())
theorem fourOf_t (s : ByteArray) (hs : s.size ≤ 1048576) : R_fourOf_t s = some (fourA s.data.toList) := by
 unfold R_fourOf_t fourA fourV
 have hsp := splitAt_t 46 s hs
 rw [show ((46 : UInt8).toNat : Int) = 46 from rfl] at hsp
 rw [hsp, bind_s]
 have hlen : decide (lenL ((splL 46 [] s.data.toList).map ofBytes) = 4) = decide ((splL 46 [] s.data.toList).length = 4) := by
  refine decide_eq_decide.2 ?_
  unfold lenL
  rw [List.length_map]
  omega
 simp only
 rw [hlen]
 by_cases h4 : (splL 46 [] s.data.toList).length = 4
 ·rw [decide_eq_true h4, if_pos h4, Bool.not_true, br_false]
  have := fourOf_loop _ h4 (fun x hx => by have := splL_size 46 s.data.toList [] x hx; rw [data_len] at this; simp at this; omega) FUEL 0 [] (fuel_gt (by omega)) (by omega) (by simp)
  rw [List.drop_zero] at this
  rw [empB, show (0 : Int) = ((0 : Nat) : Int) from rfl, this, bind_s]
  have hb := fourB_eq (splL 46 [] s.data.toList) 0 0
  rw [show bitsTo 0 (0 - 1) 0 = [] from rfl, h4] at hb
  rw [hb]
  cases fourR (splL 46 [] s.data.toList) 0 with
  | none => rfl
  | some n => rfl
 ·rw [decide_eq_false h4, if_neg h4, Bool.not_false, br_true]
end Go.Ma
namespace Go.Ma
open Go
def grpsA (o : Option (List Int)) : ByteArray × Bool × Unit := match o with | some l => (ofBytes (bitsG l), true, ()) | none => (ByteArray.empty, false, ())
theorem groupsOf_loop (e : Bool) (l : List (List UInt8)) (hL : l.length ≤ 1048577) (hl : ∀ x ∈ l, x.length ≤ 1048576) : ∀ (N k : Nat) (out : List Int), l.length - k < N → k ≤ l.length → out.length ≤ 2 * k →
  loopN R_groupsOf_L6 N (((e, ()), (()), (ofBytes (bitsG out), ()), ((k : Int), ()), ()), (l.map ofBytes, ())) = some (match someL e l.length ((l.drop k).map ofBytes) k out with | some r => Sum.inr (((ofBytes (bitsG r), ()), ()), ()) | none => Sum.inl (((ByteArray.empty, ()), (false, ()), ()), ())) := by
 intro N
 induction N with
 | zero => intro k out h; omega
 | succ N ih =>
  intro k out hN hk ho
  have hlL : lenL (l.map ofBytes) = (l.length : Int) := by unfold lenL; rw [List.length_map]
  rw [zq6]
  simp only [R_groupsOf_L6, hlL]
  by_cases h : k = l.length
  ·rw [decide_eq_false (show ¬ (k : Int) < (l.length : Int) by omega), br_false, List.drop_of_length_le (by omega)]
   rfl
  ·obtain ⟨x, hx⟩ : ∃ x, l[k]? = some x := ⟨_, List.getElem?_eq_getElem (by omega)⟩
   have hx2 : (l.map ofBytes)[k]? = some (ofBytes x) := by rw [List.getElem?_map, hx]; rfl
   have hxl := hl x (List.mem_of_getElem? hx)
   have hxs : (ofBytes x).size ≤ 1048576 := by rw [ofBytes_size]; exact hxl
   rw [decide_eq_true (show (k : Int) < (l.length : Int) by omega), br_true, req_of (inRange_of (by omega) (by omega)), geti_at hx2, bind_s, groupOf_t _ hxs, bind_s, ofBytes_list, drop_cons hx, List.map_cons, someL_step]
   have hdec : decide ((k : Int) = (l.length : Int) - 1) = decide (k + 1 = l.length) := decide_eq_decide.2 (by omega)
   unfold pieceR groupA
   cases hg : groupR x with
   | some n =>
    simp only [Bool.not_true, br_false, bind_s, catB]
    have hb : bitsG out ++ bitsTo n 15 16 = bitsG (out ++ [(n : Int)]) := by
     rw [bitsG_app, bitsG_cons, show bitsG [] = [] from rfl, List.append_nil]
     rfl
    rw [hb, req_of (roomB _ (by rw [bitsG_len]; simp; omega)), req_of (i64ok_of (by omega) (by omega)), show (k : Int) + 1 = ((k + 1 : Nat) : Int) by omega]
    exact ih (k + 1) _ (by omega) (by omega) (by simp; omega)
   | none =>
    simp only [Bool.not_false, br_true, bind_s, hdec]
    cases e with
    | false =>
     simp only [br_false, bind_s, Bool.false_and]
    | true =>
     simp only [br_true, Bool.true_and]
     rw [req_of (i64ok_of (by omega) (by omega)), bind_s]
     by_cases hk1 : k + 1 = l.length
     ·simp only [decide_eq_true hk1, br_true]
      rw [req_of (inRange_of (by omega) (by omega)), fourOf_t _ hxs, bind_s, ofBytes_list]
      unfold fourA
      cases hv : fourV x with
      | none => rfl
      | some n =>
       simp only [Bool.not_true, br_false, Option.map_some, catB]
       have hb : bitsG out ++ bitsTo n 31 32 = bitsG (out ++ [((n / 65536 : Nat) : Int), ((n % 65536 : Nat) : Int)]) := by rw [bitsG_app, bits32]
       rw [hb, req_of (roomB _ (by rw [bitsG_len]; simp; omega)), req_of (i64ok_of (by omega) (by omega)), show (k : Int) + 1 = ((k + 1 : Nat) : Int) by omega]
       exact ih (k + 1) _ (by omega) (by omega) (by simp; omega)
     ·simp only [decide_eq_false hk1, br_false]
theorem groupsOf_t (s : ByteArray) (hs : s.size ≤ 1048576) (e : Bool) : R_groupsOf_t s e = some (grpsA (someF s e)) := by
 unfold R_groupsOf_t someF
 rw [strcmp_eql]
 by_cases h0 : s.size = 0
 ·have : s = ByteArray.empty := by
   rw [← ofBytes_data s]
   have : s.data.toList = [] := List.length_eq_zero_iff.1 (by rw [data_len]; exact h0)
   rw [this]
   rfl
  rw [if_pos h0, decide_eq_true this, br_true]
  rfl
 ·have hne : ¬ s = ByteArray.empty := fun h => h0 (by rw [h]; rfl)
  rw [if_neg h0, decide_eq_false hne, br_false]
  have hsp := splitAt_t 58 s hs
  rw [show ((58 : UInt8).toNat : Int) = 58 from rfl] at hsp
  rw [hsp, bind_s]
  have hL : (splL 58 [] s.data.toList).length ≤ 1048577 := by
   unfold splL
   have := splF_len 58 s.data.toList []
   rw [data_len] at this
   simp
   omega
  have := groupsOf_loop e (splL 58 [] s.data.toList) hL (fun x hx => by have := splL_size 58 s.data.toList [] x hx; rw [data_len] at this; simp at this; omega) FUEL 0 [] (fuel_gt (by omega)) (by omega) (by simp)
  rw [List.drop_zero, show bitsG [] = [] from rfl] at this
  simp only [empB] at this ⊢
  rw [show (0 : Int) = ((0 : Nat) : Int) from rfl, this, bind_s, splitOn_any, List.length_map]
  cases someL e (splL 58 [] s.data.toList).length ((splL 58 [] s.data.toList).map ofBytes) 0 [] with
  | none => rfl
  | some l => rfl
theorem someL_len (last : Bool) (len : Nat) : ∀ (l : List ByteArray) (i : Nat) (out r : List Int), someL last len l i out = some r → r.length ≤ out.length + 2 * l.length
 | [], i, out, r, h => by
  simp only [someL, Option.some.injEq] at h
  subst h
  omega
 | x :: l, i, out, r, h => by
  rw [someL] at h
  split at h
  ·cases hf : fourF x with
   | none => rw [hf] at h; cases h
   | some n =>
    rw [hf] at h
    have := someL_len last len l _ _ r h
    simp only [List.length_append, List.length_cons, List.length_nil] at this ⊢
    omega
  ·cases hf : partF x 16 4 65535 with
   | none => rw [hf] at h; cases h
   | some n =>
    rw [hf] at h
    have := someL_len last len l _ _ r h
    simp only [List.length_append, List.length_cons, List.length_nil] at this ⊢
    omega
theorem someF_len {s : ByteArray} {e : Bool} {r : List Int} (h : someF s e = some r) : r.length ≤ 2 * (s.size + 1) := by
 unfold someF at h
 split at h
 ·injection h with h
  subst h
  simp
 ·have h1 := someL_len e _ _ _ _ r h
  rw [splitOn_any, List.length_map] at h1
  have h2 := splF_len 58 s.data.toList []
  rw [data_len] at h2
  unfold splL at h1
  simp only [List.length_append, List.length_cons, List.length_nil] at h1
  omega
theorem mem_step {s : List UInt8} {i : Nat} {b : UInt8} (h : s[i]? = some b) : decide ((58 : UInt8) ∈ s.drop i) = (decide ((58 : UInt8) ∈ s.drop (i + 1)) || decide (b = 58)) := by
 rw [drop_cons h, Bool.eq_iff_iff, Bool.or_eq_true, decide_eq_true_iff, decide_eq_true_iff, decide_eq_true_iff, List.mem_cons]
 constructor
 ·rintro (h | h)
  ·exact .inr h.symm
  ·exact .inl h
 ·rintro (h | h)
  ·exact .inr h
  ·exact .inl h.symm
theorem byte58 (b : UInt8) : decide ((b.toNat : Int) = 58) = decide (b = 58) := by
 refine decide_eq_decide.2 ⟨fun h => UInt8.toNat_inj.1 ?_, fun h => by rw [h]; rfl⟩
 have : b.toNat = 58 := by omega
 rw [this]
 rfl
theorem parse_loop (s : ByteArray) (hs : s.size ≤ 1048576) (a : Ad) : loopN R_ParseOf_L3 FUEL (((s, ()), (()), (false, ()), ((-1), ()), ((lenS s) - 1, ()), ()), ((a, ()), ())) =
  some (((s, ()), (()), (decide ((58 : UInt8) ∈ s.data.toList), ()), (ccAt s.data.toList 0, ()), ()), ((a, ()), ())) := by
 have := loop_up (step := R_ParseOf_L3) (fun j => (((s, ()), (()), (decide ((58 : UInt8) ∈ s.data.toList.drop (s.size - j)), ()), (ccAt s.data.toList (s.size - j), ()), ((s.size : Int) - 1 - (j : Int), ()), ()), ((a, ()), ()))) s.size
  (fun _ => some (((s, ()), (()), (decide ((58 : UInt8) ∈ s.data.toList), ()), (ccAt s.data.toList 0, ()), ()), ((a, ()), ()))) (fun rec j hj hr => ?_) (fun rec => ?_) FUEL 0 (Nat.zero_le _) (fuel_gt (by omega))
 ·have hd : s.data.toList.drop (s.size - 0) = [] := List.drop_of_length_le (by rw [data_len]; omega)
  have hc : ccAt s.data.toList (s.size - 0) = -1 := by unfold ccAt; rw [hd]; rfl
  rw [hd, hc] at this
  rw [← this]
  unfold lenS
  congr 1
  simp
 ·obtain ⟨i, hi⟩ : ∃ i, i + j + 1 = s.size := ⟨s.size - j - 1, by omega⟩
  have e1 : s.size - j = i + 1 := by omega
  have e2 : s.size - (j + 1) = i := by omega
  have e3 : (s.size : Int) - 1 - (j : Int) = (i : Int) := by omega
  have e4 : (s.size : Int) - 1 - ((j + 1 : Nat) : Int) = (i : Int) - 1 := by omega
  simp only [e2, e4] at hr
  simp only [e1, e3, R_ParseOf_L3]
  obtain ⟨b, hb⟩ : ∃ b, s.data.toList[i]? = some b := ⟨_, List.getElem?_eq_getElem (by rw [data_len]; omega)⟩
  have hl : lenS s = (s.size : Int) := rfl
  have hin : inRange (i : Int) (lenS s) = true := inRange_of (by omega) (by omega)
  have hcA := ccAt_step hb
  have hm := mem_step hb
  rw [decide_eq_true (show (i : Int) ≥ 0 by omega), br_true]
  simp only [hin, req_true, byteAt_eq hb, byte58, br_ss, bind_s]
  have hc1 : (bif decide ((58 : UInt8) ∈ s.data.toList.drop (i + 1)) then true else decide (b = 58)) = decide ((58 : UInt8) ∈ s.data.toList.drop i) := by
   rw [hm]
   cases decide ((58 : UInt8) ∈ s.data.toList.drop (i + 1)) <;> rfl
  rw [hc1, req_of (i64ok_of (by omega) (by omega))]
  by_cases hlast : i + 1 < s.size
  ·obtain ⟨c, hc⟩ : ∃ c, s.data.toList[i + 1]? = some c := ⟨_, List.getElem?_eq_getElem (by rw [data_len]; omega)⟩
   have hin2 : inRange ((i : Int) + 1) (lenS s) = true := inRange_of (by omega) (by omega)
   have hbc : byteAt s ((i : Int) + 1) = (c.toNat : Int) := by
    rw [show (i : Int) + 1 = ((i + 1 : Nat) : Int) by omega]
    exact byteAt_eq hc
   rw [decide_eq_true (show (i : Int) + 1 < lenS s by omega)]
   simp only [cond_true]
   by_cases hbb : b = 58
   ·rw [decide_eq_true hbb, br_true, req_of (i64ok_of (by omega) (by omega)), hin2, req_true, hbc, byte58, bind_s]
    by_cases hcc : c = 58
    ·rw [decide_eq_true hcc, br_true, req_of (i64ok_of (by omega) (by omega)), ← hr, hcA, if_pos ⟨hbb, by rw [hc, hcc]⟩]
    ·rw [decide_eq_false hcc, br_false, req_of (i64ok_of (by omega) (by omega)), ← hr, hcA, if_neg (fun hh => hcc (by rw [hc] at hh; exact Option.some.inj hh.2))]
   ·rw [decide_eq_false hbb, br_false, bind_s, br_false, req_of (i64ok_of (by omega) (by omega)), ← hr, hcA, if_neg (fun hh => hbb hh.1)]
  ·have hnone : s.data.toList[i + 1]? = none := List.getElem?_eq_none (by rw [data_len]; omega)
   rw [decide_eq_false (show ¬ (i : Int) + 1 < lenS s by omega)]
   simp only [cond_false]
   rw [br_false, bind_s, br_false, req_of (i64ok_of (by omega) (by omega)), ← hr, hcA, if_neg (fun hh => by rw [hnone] at hh; cases hh.2)]
 ·have e3 : (s.size : Int) - 1 - (s.size : Int) = -1 := by omega
  simp only [R_ParseOf_L3, e3, Nat.sub_self, List.drop_zero]
  rw [decide_eq_false (by decide), br_false]
theorem pad_loop (b : List UInt8) (d : Ad) : ∀ (N : Nat) (a : List UInt8), 128 - (a.length + b.length) < N → a.length + b.length ≤ 128 →
  loopN R_ParseOf_L23 N (((()), (ofBytes a, ()), (ofBytes b, ()), ()), ((d, ()), ())) = some (((()), (ofBytes (a ++ List.replicate (128 - (a.length + b.length)) 48), ()), (ofBytes b, ()), ()), ((d, ()), ())) := by
 intro N
 induction N with
 | zero => intro a h; omega
 | succ N ih =>
  intro a hN ha
  rw [zq6]
  simp only [R_ParseOf_L23, lenB]
  rw [req_of (i64ok_of (by omega) (by omega))]
  by_cases h : a.length + b.length = 128
  ·rw [decide_eq_false (show ¬ ((a.length : Int) + (b.length : Int) < 128) by omega), br_false, show 128 - (a.length + b.length) = 0 by omega]
   simp
  ·have ec : catS (ofBytes a) (⟨#[48]⟩ : ByteArray) = ofBytes (a ++ [48]) := catB a [48]
   rw [decide_eq_true (show ((a.length : Int) + (b.length : Int) < 128) by omega), br_true, ec, req_of (roomB _ (by simp; omega)), ih (a ++ [48]) (by simp; omega) (by simp; omega)]
   have e : 128 - (a.length + b.length) = (128 - ((a ++ [48]).length + b.length)) + 1 := by simp; omega
   rw [e, List.replicate_succ, List.append_assoc]
   rfl
theorem AddrOf_four {n : Nat} (h : n < 4294967296) : R_AddrOf_t (ofBytes (bitsTo n 31 32)) = some (⟨false, 0, (n : Int)⟩, ()) := by
 have := R_AddrOf_eq (v := false) (n := n) (by show n < 2 ^ 32; omega)
 rw [show wid false = 32 from rfl] at this
 rw [this]
 refine congrArg (fun x : Ad => some (x, ())) ?_
 unfold ofNum
 have e1 : n / 18446744073709551616 = 0 := Nat.div_eq_of_lt (by omega)
 have e2 : n % 18446744073709551616 = n := Nat.mod_eq_of_lt (by omega)
 rw [e1, e2]
 rfl
def parsA (o : Option Ad) : Ad × Bool × Unit := match o with | some a => (a, true, ()) | none => (⟨false, 0, 0⟩, false, ())
theorem ParseOf_t (s : ByteArray) (hs : s.size ≤ 1048576) : R_ParseOf_t s = some (parsA (toldF s)) := by
 have hl : lenS s = (s.size : Int) := rfl
 have hcol : colonIn s = decide ((58 : UInt8) ∈ s.data.toList) := by
  unfold colonIn
  by_cases h : (58 : UInt8) ∈ s.data.toList
  ·rw [decide_eq_true h, decide_eq_true (byte_some h)]
  ·rw [decide_eq_false h, byte_none _ 58 h]
   rfl
 unfold R_ParseOf_t
 rw [req_of (i64ok_of (by omega) (by omega)), parse_loop s hs, bind_s]
 unfold toldF
 rw [hcol]
 simp only
 by_cases hc : (58 : UInt8) ∈ s.data.toList
 rotate_left
 ·rw [decide_eq_false hc, Bool.not_false, br_true, fourOf_t s hs, bind_s, if_neg (by decide), fourF_V]
  unfold fourA
  cases hv : fourV s.data.toList with
  | none => rfl
  | some n =>
   simp only [Bool.not_true, br_false, Option.map_some]
   rw [AddrOf_four (fourV_lt hv), bind_s]
   rfl
 rw [decide_eq_true hc, Bool.not_true, br_false, if_pos rfl]
 unfold sixteenF cut1 cut2 cut3
 rw [cut_cc]
 unfold ccAt
 rw [List.drop_zero]
 cases hcc : ccL s.data.toList with
 | none =>
  simp only [Bool.false_eq_true, if_false]
  rw [decide_eq_true (by decide), br_true, groupsOf_t s hs true, bind_s]
  unfold grpsA
  cases hF : someF s true with
  | none => rfl
  | some l =>
   simp only [Bool.not_true, br_false, lenB, bitsG_len]
   by_cases h8 : l.length = 8
   ·rw [if_pos h8, decide_eq_true (by omega), Bool.not_true, br_false, pack_bits (someF_bound hF) h8, bind_s]
    rfl
   ·rw [if_neg h8, decide_eq_false (by omega), Bool.not_false, br_true]
    rfl
 | some k =>
  have hk := ccL_len hcc
  rw [data_len] at hk
  simp only [if_true]
  have e0 : subS s 0 ((0 + k : Nat) : Int) = (⟨(s.data.toList.take k).toArray⟩ : ByteArray) := by
   have := subB s.data.toList 0 (0 + k)
   rw [ofBytes_data] at this
   rw [show (0 : Int) = ((0 : Nat) : Int) from rfl, this, Nat.zero_add, List.drop_zero]
   rfl
  have e2 : subS s (((0 + k : Nat) : Int) + 2) (lenS s) = (⟨(s.data.toList.drop (k + 2)).toArray⟩ : ByteArray) := by
   have := subB s.data.toList (k + 2) s.size
   rw [ofBytes_data] at this
   rw [show (((0 + k : Nat) : Int) + 2) = ((k + 2 : Nat) : Int) by omega, hl, this, List.take_of_length_le (by rw [data_len]; exact Nat.le_refl _)]
   rfl
  rw [e0, e2]
  have s1 : (⟨(s.data.toList.take k).toArray⟩ : ByteArray).size ≤ 1048576 := by
   show (ofBytes _).size ≤ _
   rw [ofBytes_size, List.length_take, data_len]
   omega
  have s2 : (⟨(s.data.toList.drop (k + 2)).toArray⟩ : ByteArray).size ≤ 1048576 := by
   show (ofBytes _).size ≤ _
   rw [ofBytes_size, List.length_drop, data_len]
   omega
  rw [decide_eq_false (show ¬ ((0 + k : Nat) : Int) < 0 by omega), br_false, groupsOf_t _ s1 false, bind_s]
  rw [req_of (by rw [Bool.and_eq_true, decide_eq_true_iff, decide_eq_true_iff]; omega), req_of (i64ok_of (by omega) (by omega)), req_of (by rw [Bool.and_eq_true, Bool.and_eq_true, decide_eq_true_iff, decide_eq_true_iff, decide_eq_true_iff]; omega), groupsOf_t _ s2 true, bind_s]
  generalize (⟨(s.data.toList.take k).toArray⟩ : ByteArray) = t1 at s1 ⊢
  generalize (⟨(s.data.toList.drop (k + 2)).toArray⟩ : ByteArray) = t2 at s2 ⊢
  unfold grpsA
  cases hF : someF t1 false with
  | none =>
   simp only [Bool.not_false, br_true, bind_s]
   rfl
  | some l =>
   cases hF2 : someF t2 true with
   | none =>
    simp only [Bool.not_true, Bool.not_false, br_false, br_true, bind_s]
    rfl
   | some m =>
    have q1 := someF_len hF
    have q2 := someF_len hF2
    simp only [Bool.not_true, br_false, bind_s, lenB, bitsG_len]
    rw [req_of (i64ok_of (by omega) (by omega)), bind_s]
    by_cases h7 : 7 < l.length + m.length
    ·rw [if_pos h7, decide_eq_true (by omega), br_true]
     rfl
    ·rw [if_neg h7, decide_eq_false (by omega), br_false]
     have hp := pad_loop (bitsG m) (⟨false, 0, 0⟩ : Ad) FUEL (bitsG l) (fuel_gt (by omega)) (by rw [bitsG_len, bitsG_len]; omega)
     rw [hp, bind_s]
     have hz : bitsG l ++ List.replicate (128 - ((bitsG l).length + (bitsG m).length)) 48 = bitsG (l ++ List.replicate (8 - l.length - m.length) 0) := by
      rw [bitsG_app, bitsG_zero, bitsG_len, bitsG_len]
      congr 2
      omega
     have h8 : (l ++ List.replicate (8 - l.length - m.length) (0 : Int) ++ m).length = 8 := by simp; omega
     simp only [hz, catB, ← bitsG_app]
     rw [req_of (roomB _ (by rw [bitsG_len, h8]; omega)), lenB, bitsG_len, h8]
     rw [decide_eq_true (by decide), Bool.not_true, br_false]
     rw [pack_bits (fun u hu => by
      rcases List.mem_append.1 hu with hu | hu
      ·rcases List.mem_append.1 hu with hu | hu
       ·exact someF_bound hF u hu
       ·rw [(List.mem_replicate.1 hu).2]
        exact ⟨by decide, by decide⟩
      ·exact someF_bound hF2 u hu) h8, bind_s]
     rfl
end Go.Ma
namespace Go.Ma
open Go
theorem gsA_len (a : Ad) : (gsA a).length = 8 := by simp [gsA]
theorem gsA_get (a : Ad) {i : Nat} (h : i < 8) : (gsA a)[i]? = some (gI a i) := by simp [gsA, h]
theorem row_z {a : Ad} (h : a.wf) {f : Nat} (hf : f ≤ 8) : addr_row_t a f = some (((zrow ((gsA a).drop f) : Nat) : Int), ()) := by
 obtain ⟨m, m1, m2, m3, m4⟩ := row_eq h hf
 rw [m4]
 have : zrow ((gsA a).drop f) = m := zrow_get (by rw [List.length_drop, gsA_len]; omega) (fun j hj => by rw [List.getElem?_drop, gsA_get a (by omega), m2 j hj]) (fun hl => by
  rw [List.length_drop, gsA_len] at hl
  rw [List.getElem?_drop, gsA_get a (by omega)]
  intro he
  exact m3 (by omega) (Option.some.inj he))
 rw [this]
theorem longest_z {a : Ad} (h : a.wf) : ∀ (N k i : Nat) (x : Int) (m : Nat), k < N → i + k = 8 →
  loopN zq1 N (((), (x, ()), ((m : Int), ()), ((i : Int), ()), ()), ((a, ()), ())) = some ((((lngF (gsA a) k i (x, m)).1, ()), (((lngF (gsA a) k i (x, m)).2 : Int), ()), ()), ()) := by
 intro N
 induction N with
 | zero => intro k i x m h; omega
 | succ N ih =>
  intro k i x m hk hi
  rw [zq6]
  simp only [zq1]
  cases k with
  | zero =>
   rw [decide_eq_false (show ¬ (i : Int) < 8 by omega), br_false]
   rfl
  | succ k =>
   rw [decide_eq_true (show (i : Int) < 8 by omega), br_true, row_z h (by omega), bind_s]
   simp only []
   unfold lngF
   simp only
   by_cases hz : m < zrow ((gsA a).drop i)
   ·rw [decide_eq_true (show ((zrow ((gsA a).drop i) : Nat) : Int) > (m : Int) by omega), br_true, if_pos hz, req_of (i64ok_of (by omega) (by omega)), show (i : Int) + 1 = ((i + 1 : Nat) : Int) by omega]
    exact ih k (i + 1) _ _ (by omega) (by omega)
   ·rw [decide_eq_false (show ¬ ((zrow ((gsA a).drop i) : Nat) : Int) > (m : Int) by omega), br_false, if_neg hz, req_of (i64ok_of (by omega) (by omega)), show (i : Int) + 1 = ((i + 1 : Nat) : Int) by omega]
    exact ih k (i + 1) _ _ (by omega) (by omega)
def lngA (a : Ad) : Int × Nat := lngF (gsA a) 8 0 (0, 1)
def text16 (a : Ad) : List UInt8 := if (lngA a).2 < 2 then joinG (gsA a) else joinG ((gsA a).take (lngA a).1.toNat) ++ [58, 58] ++ joinG ((gsA a).drop ((lngA a).1.toNat + (lngA a).2))
theorem lngA_at {a : Ad} (h : 2 ≤ (lngA a).2) : ∃ q : Nat, (lngA a).1 = (q : Int) ∧ Row0 a q (lngA a).2 := by
 obtain ⟨q, q1, q2, q3⟩ := lngF_at (gsA a) (gsA_len a) 8 0 0 1 (by omega) (by omega) (fun h => by omega) h
 refine ⟨q, q1, q2, fun j hj => ?_⟩
 have := zrow_zero (Nat.lt_of_lt_of_le hj q3)
 have h8 : (lngA a).2 = (lngF (gsA a) 8 0 (0, 1)).2 := rfl
 rw [List.getElem?_drop, gsA_get a (by omega)] at this
 exact Option.some.inj this
theorem Text_16 {a : Ad} (h : a.wf) (hv : a.v6 = true) : addr_Text_t a = some (ofBytes (text16 a), ()) := by
 rw [text_of6 hv]
 have hl := longest_z h FUEL 8 0 0 1 (fuel_gt (by omega)) (by omega)
 have hl : loopN zq1 FUEL (((), ((0 : Int), ()), ((1 : Int), ()), ((0 : Int), ()), ()), ((a, ()), ())) = some ((((lngA a).1, ()), (((lngA a).2 : Int), ()), ()), ()) := hl
 unfold addr_longest_t
 rw [hl, bind_s]
 simp only []
 unfold text16
 by_cases h2 : (lngA a).2 < 2
 ·rw [decide_eq_true (show ((lngA a).2 : Int) < 2 by omega), br_true, bind_s, textOf6_none h, if_pos h2]
  rfl
 ·obtain ⟨q, q1, q2⟩ := lngA_at (a := a) (by omega)
  rw [decide_eq_false (show ¬ ((lngA a).2 : Int) < 2 by omega), br_false, bind_s, if_neg h2, q1, textOf6_some h (by omega) q2, Int.toNat_natCast]
  rfl
def textA (a : Ad) : List UInt8 := if a.v6 then text16 a else text4 a.lo.toNat
theorem Text_A {a : Ad} (h : a.wf) : addr_Text_t a = some (ofBytes (textA a), ()) := by
 unfold textA
 cases hv : a.v6
 ·rw [text_v4 h hv]
  rfl
 ·rw [Text_16 h hv]
  rfl
theorem bits_sub {n top c i k : Nat} (h1 : i + k ≤ c) (h2 : c ≤ top + 1) : ((bitsTo n top c).take (i + k)).drop i = bitsTo (n / 2 ^ (top + 1 - i - k) % 2 ^ k) (k - 1) k := by
 apply List.ext_getElem?
 intro j
 rw [List.getElem?_drop, List.getElem?_take, zq2]
 by_cases hj : j < k
 ·rw [if_pos (by omega), if_pos (by omega), zq2, if_pos hj]
  refine congrArg some (bitV_congr ?_)
  rw [Nat.testBit_mod_two_pow, decide_eq_true (by omega), Bool.true_and, Nat.testBit_div_two_pow]
  congr 1
  omega
 ·rw [if_neg (by omega), zq2, if_neg hj]
theorem slice6 {a : Ad} (hv : a.v6 = true) {i : Nat} (hi : i < 8) : ((bitsA a).take (16 * i + 16)).drop (16 * i) = bitsTo (gI a i) 15 16 := by
 unfold bitsA gI
 rw [if_pos hv]
 by_cases h4 : i < 4
 ·rw [if_pos h4, List.take_append_of_le_length (by rw [zq3]; omega)]
  have := bits_sub (n := a.hi.toNat) (top := 63) (c := 64) (i := 16 * i) (k := 16) (by omega) (by omega)
  rw [this, show 63 + 1 - 16 * i - 16 = 48 - 16 * i by omega]
 ·rw [if_neg h4, List.take_append, List.take_of_length_le (by rw [zq3]; omega), zq3, List.drop_append, List.drop_of_length_le (by rw [zq3]; omega), List.nil_append, zq3]
  have := bits_sub (n := a.lo.toNat) (top := 63) (c := 64) (i := 16 * i - 64) (k := 16) (by omega) (by omega)
  rw [show 16 * i + 16 - 64 = 16 * i - 64 + 16 by omega, this, show 63 + 1 - (16 * i - 64) - 16 = 112 - 16 * i by omega]
theorem slice4 {a : Ad} (hv : a.v6 = false) : bitsA a = bitsTo a.lo.toNat 31 32 := by
 unfold bitsA
 rw [hv]
 simp only [Bool.false_eq_true, if_false]
 rw [List.drop_append, List.drop_of_length_le (by rw [zq3]; omega), List.nil_append, zq3]
 apply List.ext_getElem?
 intro j
 rw [List.getElem?_drop, zq2, zq2]
 by_cases hj : j < 32
 ·rw [if_pos (by omega), if_pos hj]
  congr 2
  omega
 ·rw [if_neg (by omega), if_neg hj]
def gsI (a : Ad) : List Int := (gsA a).map fun (g : Nat) => (g : Int)
theorem gsI_get (a : Ad) {i : Nat} (h : i < 8) : (gsI a)[i]? = some ((gI a i : Nat) : Int) := by
 unfold gsI
 rw [List.getElem?_map, gsA_get a h]
 rfl
theorem gsI_len (a : Ad) : (gsI a).length = 8 := by simp [gsI, gsA]
theorem fillG_loop {a : Ad} (hv : a.v6 = true) : loopN R_TextOf_L6 FUEL (((ofBytes (bitsA a), ()), (()), (0, ()), ()), (([0, 0, 0, 0, 0, 0, 0, 0] : List Int), ())) = some (((()), ()), (gsI a, ())) := by
 have hlen : lenS (ofBytes (bitsA a)) = 128 := by rw [lenB, bitsA_len, hv]; rfl
 have := loop_up (step := R_TextOf_L6) (fun i => (((ofBytes (bitsA a), ()), (()), ((i : Int), ()), ()), ((gsI a).take i ++ List.replicate (8 - i) 0, ()))) 8 (fun _ => some (((()), ()), (gsI a, ()))) (fun rec i hi hr => ?_) (fun rec => ?_) FUEL 0 (by omega) (fuel_gt (by omega))
 ·exact this
 ·have hl : ((gsI a).take i ++ List.replicate (8 - i) (0 : Int)).length = 8 := by rw [List.length_append, List.length_take, List.length_replicate, gsI_len]; omega
  have hget : ((gsI a).take i ++ List.replicate (8 - i) (0 : Int))[i]? = some 0 := by
   rw [List.getElem?_append_right (by rw [List.length_take, gsI_len]; omega), List.length_take, gsI_len, show i - min i 8 = 0 by omega]
   rw [show 8 - i = (7 - i) + 1 by omega]
   rfl
  have hsub : subS (ofBytes (bitsA a)) (16 * (i : Int)) (16 * (i : Int) + 16) = ofBytes (bitsTo (gI a i) 15 16) := by
   rw [show 16 * (i : Int) = ((16 * i : Nat) : Int) by omega, show ((16 * i : Nat) : Int) + 16 = ((16 * i + 16 : Nat) : Int) by omega, subB, slice6 hv hi]
  have hset : seti ((gsI a).take i ++ List.replicate (8 - i) (0 : Int)) (i : Int) ((gI a i : Nat) : Int) = (gsI a).take (i + 1) ++ List.replicate (8 - (i + 1)) 0 := by
   unfold seti
   have hlt : ((gsI a).take i).length = i := by rw [List.length_take, gsI_len]; omega
   rw [Int.toNat_natCast, List.set_append, if_neg (by rw [hlt]; omega), hlt, Nat.sub_self, show 8 - i = (8 - (i + 1)) + 1 by omega, List.replicate_succ, List.set_cons_zero, List.take_add_one, gsI_get a hi]
   simp
  simp only [R_TextOf_L6, hlen]
  rw [decide_eq_true (show (i : Int) < 8 by omega), br_true, req_of (i64ok_of (by omega) (by omega)), req_of (i64ok_of (by omega) (by omega)), req_of (i64ok_of (by omega) (by omega)), req_of (by rw [Bool.and_eq_true, Bool.and_eq_true, decide_eq_true_iff, decide_eq_true_iff, decide_eq_true_iff]; omega), hsub]
  have hn := numberOf_t (n := gI a i) (k := 16) (gI_lt a i) (by omega)
  rw [show 16 - 1 = 15 from rfl] at hn
  rw [hn, bind_s, hl, req_of (by rw [Bool.and_eq_true]; exact ⟨inRange_of (by omega) (by omega), rfl⟩), geti_at hget, bind_s, req_of (i64ok_of (by omega) (by omega)), hset, show (i : Int) + 1 = ((i + 1 : Nat) : Int) by omega, hr]
 ·simp only [R_TextOf_L6]
  rw [decide_eq_false (show ¬ ((8 : Nat) : Int) < 8 by omega), br_false, List.take_of_length_le (by rw [gsI_len]; omega)]
  simp
theorem zrow_stop : ∀ {l : List Nat}, zrow l < l.length → l[zrow l]? ≠ some 0
 | [], h => by simp at h
 | g :: r, h => by
  unfold zrow at h ⊢
  by_cases hg : g = 0
  ·rw [if_pos hg] at h ⊢
   have := zrow_stop (l := r) (by simpa using h)
   simpa using this
  ·rw [if_neg hg]
   simp [hg]
theorem count_loop (a : Ad) (v0 v1 : Int) {f : Nat} (hf : f ≤ 8) : ∀ (N n : Nat), 8 - (f + n) < N → n ≤ zrow ((gsA a).drop f) →
  loopN R_TextOf_L14 N (((()), (v0, ()), (v1, ()), ((f : Int), ()), ((n : Int), ()), ()), (gsI a, ())) = some (((()), (v0, ()), (v1, ()), ((f : Int), ()), (((zrow ((gsA a).drop f) : Nat) : Int), ()), ()), (gsI a, ())) := by
 intro N
 induction N with
 | zero => intro n h; omega
 | succ N ih =>
  intro n hN hn
  have hz := zrow_le ((gsA a).drop f)
  rw [List.length_drop, gsA_len] at hz
  rw [zq6]
  simp only [R_TextOf_L14]
  rw [req_of (i64ok_of (by omega) (by omega))]
  by_cases h8 : f + n < 8
  ·rw [decide_eq_true (show (f : Int) + (n : Int) < 8 by omega), br_true, req_of (i64ok_of (by omega) (by omega)), gsI_len, req_of (by rw [Bool.and_eq_true]; exact ⟨inRange_of (by omega) (by omega), rfl⟩), show (f : Int) + (n : Int) = ((f + n : Nat) : Int) by omega, geti_at (gsI_get a h8), bind_s, bind_s]
   by_cases hg : gI a (f + n) = 0
   ·have hlt : n < zrow ((gsA a).drop f) := by
     rcases Nat.lt_or_eq_of_le hn with h | h
     ·exact h
     ·exfalso
      refine zrow_stop (l := (gsA a).drop f) (by rw [List.length_drop, gsA_len]; omega) ?_
      rw [← h, List.getElem?_drop, gsA_get a h8, hg]
    rw [hg, decide_eq_true (by rfl), br_true, req_of (i64ok_of (by omega) (by omega)), show (n : Int) + 1 = ((n + 1 : Nat) : Int) by omega]
    exact ih (n + 1) (by omega) (by omega)
   ·have heq : n = zrow ((gsA a).drop f) := by
     rcases Nat.lt_or_eq_of_le hn with h | h
     ·exfalso
      have := zrow_zero h
      rw [List.getElem?_drop, gsA_get a h8] at this
      exact hg (Option.some.inj this)
     ·exact h
    rw [decide_eq_false (by omega), br_false, ← heq]
  ·have heq : n = zrow ((gsA a).drop f) := by omega
   rw [decide_eq_false (show ¬ (f : Int) + (n : Int) < 8 by omega), br_false, bind_s, br_false, ← heq]
theorem lngI_loop (a : Ad) : ∀ (N k i : Nat) (x : Int) (m : Nat), k < N → i + k = 8 →
  loopN R_TextOf_L11 N (((()), (x, ()), ((m : Int), ()), ((i : Int), ()), ()), (gsI a, ())) = some (((()), ((lngF (gsA a) k i (x, m)).1, ()), (((lngF (gsA a) k i (x, m)).2 : Int), ()), ()), (gsI a, ())) := by
 intro N
 induction N with
 | zero => intro k i x m h; omega
 | succ N ih =>
  intro k i x m hk hi
  rw [zq6]
  simp only [R_TextOf_L11]
  cases k with
  | zero =>
   rw [decide_eq_false (show ¬ (i : Int) < 8 by omega), br_false]
   rfl
  | succ k =>
   have hc := count_loop a x (m : Int) (f := i) (by omega) FUEL 0 (fuel_gt (by omega)) (by omega)
   rw [show ((0 : Nat) : Int) = 0 from rfl] at hc
   rw [decide_eq_true (show (i : Int) < 8 by omega), br_true, hc, bind_s]
   simp only []
   unfold lngF
   simp only
   by_cases hz : m < zrow ((gsA a).drop i)
   ·rw [decide_eq_true (show ((zrow ((gsA a).drop i) : Nat) : Int) > (m : Int) by omega), br_true, if_pos hz, req_of (i64ok_of (by omega) (by omega)), show (i : Int) + 1 = ((i + 1 : Nat) : Int) by omega]
    exact ih k (i + 1) _ _ (by omega) (by omega)
   ·rw [decide_eq_false (show ¬ ((zrow ((gsA a).drop i) : Nat) : Int) > (m : Int) by omega), br_false, if_neg hz, req_of (i64ok_of (by omega) (by omega)), show (i : Int) + 1 = ((i + 1 : Nat) : Int) by omega]
    exact ih k (i + 1) _ _ (by omega) (by omega)
def nextW (W : List UInt8) (g : Nat) : List UInt8 := (if W = [] ∨ W.getLast? = some 58 then W else W ++ [58]) ++ hex4 g
theorem text_step {a : Ad} {at_ m : Int} {W : List UInt8} (hW : W.length ≤ 1000) {i : Nat} (hi : i < 8) (hne : ¬ (i : Int) = at_) (rec : (((Unit) × (Int × Unit) × (Int × Unit) × (ByteArray × Unit) × (Int × Unit) × Unit) × (List Int × Unit)) → Option (((ByteArray × Unit) × Unit) × (Unit))) :
  R_TextOf_L20 rec (((()), (at_, ()), (m, ()), (ofBytes W, ()), ((i : Int), ()), ()), (gsI a, ())) = rec (((()), (at_, ()), (m, ()), (ofBytes (nextW W (gI a i)), ()), (((i + 1 : Nat) : Int), ()), ()), (gsI a, ())) := by
 have hg := gI_lt a i
 have hh := (hex4_read (gI a i) hg).2.2.1
 have ec : catS (ofBytes W) (⟨#[58]⟩ : ByteArray) = ofBytes (W ++ [58]) := catB W [58]
 simp only [R_TextOf_L20]
 rw [decide_eq_true (show (i : Int) < 8 by omega), br_true, decide_eq_false hne, br_false, strcmp_neq, empB, gsI_len]
 have hin : (inRange (i : Int) 8 && Nat.beq 8 8) = true := by rw [Bool.and_eq_true]; exact ⟨inRange_of (by omega) (by omega), rfl⟩
 rw [hin, geti_at (gsI_get a hi)]
 simp only [req_true, bind_s, Digits_hex hg, ec, catB]
 rw [show (i : Int) + 1 = ((i + 1 : Nat) : Int) by omega]
 unfold nextW
 by_cases h0 : W = []
 ·rw [decide_eq_true (by rw [h0]), Bool.not_true, br_false, bind_s, br_false, if_pos (.inl h0), req_of (roomB _ (by simp; omega)), req_of (i64ok_of (by omega) (by omega))]
 ·rw [decide_eq_false (fun h => h0 (ofBytes_inj h)), Bool.not_false, br_true, lenB]
  have hpos : 0 < W.length := List.length_pos_iff.2 h0
  obtain ⟨b, hb⟩ : ∃ b, W[W.length - 1]? = some b := ⟨_, List.getElem?_eq_getElem (by omega)⟩
  have hlast : W.getLast? = some b := by rw [List.getLast?_eq_getElem?]; exact hb
  rw [req_of (i64ok_of (by omega) (by omega)), req_of (inRange_of (by omega) (by omega)), show (W.length : Int) - 1 = ((W.length - 1 : Nat) : Int) by omega, get_byte hb, byte58, bind_s]
  by_cases h58 : b = 58
  ·rw [decide_eq_true h58, Bool.not_true, br_false, if_pos (.inr (by rw [hlast, h58])), req_of (roomB _ (by simp; omega)), req_of (i64ok_of (by omega) (by omega))]
  ·rw [decide_eq_false h58, Bool.not_false, br_true, if_neg (fun h => h.elim h0 (fun h => h58 (by rw [hlast] at h; exact Option.some.inj h))), req_of (roomB _ (by simp; omega)), req_of (roomB _ (by simp; omega)), req_of (i64ok_of (by omega) (by omega))]
def OpenT (P : List UInt8) : Prop := P = [] ∨ P.getLast? = some 58
theorem nextW_join {P : List UInt8} (hP : OpenT P) {Q : List Nat} (hQ : ∀ g ∈ Q, g < 65536) (g : Nat) : nextW (P ++ joinG Q) g = P ++ joinG (Q ++ [g]) := by
 rw [joinG_snoc]
 unfold nextW
 by_cases h0 : Q = []
 ·subst h0
  have hP' : P = [] ∨ P.getLast? = some 58 := hP
  rw [if_pos rfl, show joinG [] = [] from rfl, List.append_nil, if_pos hP']
 ·obtain ⟨l, b, hl, hb⟩ := joinG_last hQ h0
  rw [if_neg h0, if_neg, List.append_assoc, List.append_assoc]
  ·rfl
  ·rw [hl, ← List.append_assoc]
   rintro (h | h)
   ·simp at h
   ·rw [List.getLast?_append] at h
    simp at h
    exact hb h
theorem text_run {a : Ad} {at_ m : Int} {P : List UInt8} (hP : OpenT P) (hPl : P.length ≤ 100) (p : Nat) : ∀ (n i N : Nat), p ≤ i → i + n ≤ 8 → (∀ j, i ≤ j → j < i + n → ¬ (j : Int) = at_) →
  loopN R_TextOf_L20 (N + n) (((()), (at_, ()), (m, ()), (ofBytes (P ++ joinG (((gsA a).take i).drop p)), ()), ((i : Int), ()), ()), (gsI a, ())) = loopN R_TextOf_L20 N (((()), (at_, ()), (m, ()), (ofBytes (P ++ joinG (((gsA a).take (i + n)).drop p)), ()), (((i + n : Nat) : Int), ()), ()), (gsI a, ()))
 | 0, i, N, _, _, _ => rfl
 | n + 1, i, N, hp, hi, hne => by
  have hQ : ∀ g ∈ ((gsA a).take i).drop p, g < 65536 := fun g hg => gsA_lt a g (List.mem_of_mem_take (List.mem_of_mem_drop hg))
  have hl := joinG_len hQ
  have hl2 : (((gsA a).take i).drop p).length ≤ 8 := by rw [List.length_drop, List.length_take, gsA_len]; omega
  rw [show N + (n + 1) = (N + n) + 1 by omega, zq6, text_step (by rw [List.length_append]; omega) (by omega) (hne i (by omega) (by omega)), nextW_join hP hQ]
  have e : ((gsA a).take i).drop p ++ [gI a i] = ((gsA a).take (i + 1)).drop p := by
   rw [List.take_add_one, gsA_get a (by omega), List.drop_append_of_le_length (by rw [List.length_take, gsA_len]; omega)]
   rfl
  rw [e, text_run hP hPl p n (i + 1) N (by omega) (by omega) (fun j h1 h2 => hne j (by omega) (by omega)), show i + 1 + n = i + (n + 1) by omega]
theorem text_end {a : Ad} {at_ m : Int} {W : ByteArray} {N : Nat} : loopN R_TextOf_L20 (N + 1) (((()), (at_, ()), (m, ()), (W, ()), (((8 : Nat) : Int), ()), ()), (gsI a, ())) = some (((W, ()), ()), ()) := by
 rw [zq6]
 simp only [R_TextOf_L20]
 rw [decide_eq_false (show ¬ ((8 : Nat) : Int) < 8 by omega), br_false]
theorem fuel_split (k : Nat) (h : k < 1000) : ∃ K, FUEL = K + k := ⟨FUEL - k, by unfold FUEL; omega⟩
theorem text_loop {a : Ad} : loopN R_TextOf_L20 FUEL (((()), ((lngF (gsA a) 8 0 (-1, 1)).1, ()), (((lngF (gsA a) 8 0 (-1, 1)).2 : Int), ()), ((ByteArray.empty), ()), (0, ()), ()), (gsI a, ())) = some (((ofBytes (text16 a), ()), ()), ()) := by
 obtain ⟨t1, t2, t3, t4⟩ := lngF_two (gsA a) 8 0 0 (-1) 1 (by omega) (fun h => by omega)
 unfold text16
 unfold lngA
 by_cases h2 : (lngF (gsA a) 8 0 (0, 1)).2 < 2
 ·have e := (t3 (by omega)).2
  obtain ⟨K, hK⟩ := fuel_split 9 (by omega)
  have := text_run (a := a) (at_ := -1) (m := ((1 : Nat) : Int)) (P := []) (.inl rfl) (by simp) 0 8 0 (K + 1) (by omega) (by omega) (fun j _ _ => by omega)
  rw [text_end] at this
  rw [if_pos h2, e, hK]
  simp only [List.take_zero, List.drop_nil, List.drop_zero, List.nil_append] at this
  rw [show joinG [] = [] from rfl, List.take_of_length_le (by rw [gsA_len]; omega)] at this
  exact this
 ·obtain ⟨q, q1, q2, q3⟩ := lngF_at (gsA a) (gsA_len a) 8 0 0 1 (by omega) (by omega) (fun h => by omega) (by omega)
  rw [if_neg h2, ← t1, ← t4 (by omega), q1, Int.toNat_natCast]
  generalize (lngF (gsA a) 8 0 (0, 1)).2 = m at h2 q2 q3
  obtain ⟨K, hK⟩ := fuel_split (1 + (8 - (q + m)) + 1 + q) (by omega)
  have r1 := text_run (a := a) (at_ := (q : Int)) (m := (m : Int)) (P := []) (.inl rfl) (by simp) 0 q 0 (K + (1 + (8 - (q + m))) + 1) (by omega) (by omega) (fun j _ h => by omega)
  simp only [List.take_zero, List.drop_nil, List.drop_zero, List.nil_append, Nat.zero_add] at r1
  rw [show joinG [] = [] from rfl] at r1
  have hQ : ∀ g ∈ (gsA a).take q, g < 65536 := fun g hg => gsA_lt a g (List.mem_of_mem_take hg)
  have hl := joinG_len hQ
  have hl2 : ((gsA a).take q).length ≤ 8 := by rw [List.length_take, gsA_len]; omega
  have r2 : loopN R_TextOf_L20 (K + (1 + (8 - (q + m))) + 1) (((()), ((q : Int), ()), ((m : Int), ()), (ofBytes (joinG ((gsA a).take q)), ()), ((q : Int), ()), ()), (gsI a, ())) = loopN R_TextOf_L20 (K + (1 + (8 - (q + m)))) (((()), ((q : Int), ()), ((m : Int), ()), (ofBytes (joinG ((gsA a).take q) ++ [58, 58]), ()), (((q + m : Nat) : Int), ()), ()), (gsI a, ())) := by
   have ec : catS (ofBytes (joinG ((gsA a).take q))) (⟨#[58, 58]⟩ : ByteArray) = ofBytes (joinG ((gsA a).take q) ++ [58, 58]) := catB _ [58, 58]
   rw [zq6]
   simp only [R_TextOf_L20]
   rw [decide_eq_true (show (q : Int) < 8 by omega), br_true, show decide True = true from rfl, br_true, ec, req_of (roomB _ (by simp; omega)), req_of (i64ok_of (by omega) (by omega)), req_of (i64ok_of (by omega) (by omega)), req_of (i64ok_of (by omega) (by omega)), show (q : Int) + ((m : Int) - 1) + 1 = ((q + m : Nat) : Int) by omega]
  have hop : OpenT (joinG ((gsA a).take q) ++ [58, 58]) := .inr (by rw [List.getLast?_append]; rfl)
  have r3 := text_run (a := a) (at_ := (q : Int)) (m := (m : Int)) hop (by simp; omega) (q + m) (8 - (q + m)) (q + m) (K + 1) (by omega) (by omega) (fun j h1 h2 => by omega)
  rw [show q + m + (8 - (q + m)) = 8 by omega, text_end, List.drop_of_length_le (by rw [List.length_take]; omega), show joinG [] = [] from rfl, List.append_nil, show (gsA a).take 8 = gsA a from List.take_of_length_le (by rw [gsA_len]; omega)] at r3
  rw [hK, show K + (1 + (8 - (q + m)) + 1 + q) = K + (1 + (8 - (q + m))) + 1 + q by omega, empB]
  refine r1.trans (r2.trans ?_)
  rw [show K + (1 + (8 - (q + m))) = K + 1 + (8 - (q + m)) by omega]
  exact r3
theorem TextOf_16 {a : Ad} (h : a.In) (hv : a.v6 = true) : R_TextOf_t a = some (ofBytes (text16 a), ()) := by
 unfold R_TextOf_t
 rw [R_Bits_eq h, bind_s, hv, Bool.not_true, br_false, fillG_loop hv, bind_s]
 have hl := lngI_loop a FUEL 8 0 (-1) 1 (fuel_gt (by omega)) (by omega)
 rw [show ((0 : Nat) : Int) = 0 from rfl, show ((1 : Nat) : Int) = 1 from rfl] at hl
 rw [hl, bind_s]
 simp only []
 rw [text_loop, bind_s]
theorem TextOf_4 {a : Ad} (h : a.In) (hv : a.v6 = false) : R_TextOf_t a = some (ofBytes (text4 a.lo.toNat), ()) := by
 have hlen : lenS (ofBytes (bitsTo a.lo.toNat 31 32)) = 32 := by rw [lenB, zq3]; rfl
 have hs : ∀ i : Nat, i + 8 ≤ 32 → R_numberOf_t (subS (ofBytes (bitsTo a.lo.toNat 31 32)) (i : Int) ((i + 8 : Nat) : Int)) = some (((a.lo.toNat / 2 ^ (24 - i) % 256 : Nat) : Int), ()) := fun i hi => by
  rw [subB, bits_sub (n := a.lo.toNat) (top := 31) (c := 32) (i := i) (k := 8) hi (by omega), show 31 + 1 - i - 8 = 24 - i by omega]
  exact numberOf_t (n := a.lo.toNat / 2 ^ (24 - i) % 256) (k := 8) (Nat.mod_lt _ (by omega)) (by omega)
 have h0 := hs 0 (by omega)
 have h8 := hs 8 (by omega)
 have h16 := hs 16 (by omega)
 have h24 := hs 24 (by omega)
 have hd : ∀ n : Nat, n < 256 → R_Digits_t (n : Int) 10 = some (ofBytes (dec3 n), ()) := fun n hn => by rw [Digits_dec (by omega), dec3_eq _ (by omega)]
 have hl3 : ∀ n : Nat, n < 256 → (dec3 n).length ≤ 3 := fun n hn => (dec3_chars n (by omega)).2.1
 have b0 : a.lo.toNat / 2 ^ (24 - 0) % 256 < 256 := Nat.mod_lt _ (by omega)
 have b8 : a.lo.toNat / 2 ^ (24 - 8) % 256 < 256 := Nat.mod_lt _ (by omega)
 have b16 : a.lo.toNat / 2 ^ (24 - 16) % 256 < 256 := Nat.mod_lt _ (by omega)
 have b24 : a.lo.toNat / 2 ^ (24 - 24) % 256 < 256 := Nat.mod_lt _ (by omega)
 have e : text4 a.lo.toNat = dec3 (a.lo.toNat / 2 ^ (24 - 0) % 256) ++ [46] ++ dec3 (a.lo.toNat / 2 ^ (24 - 8) % 256) ++ [46] ++ dec3 (a.lo.toNat / 2 ^ (24 - 16) % 256) ++ [46] ++ dec3 (a.lo.toNat / 2 ^ (24 - 24) % 256) := by
  unfold text4
  rw [join_cons2, join_cons2, join_cons2, Lib.join_one]
  simp [Nat.div_one]
 unfold R_TextOf_t
 rw [R_Bits_eq h, bind_s, hv, Bool.not_false, br_true, slice4 hv]
 simp only [hlen]
 rw [e]
 generalize a.lo.toNat / 2 ^ (24 - 0) % 256 = n0 at *
 generalize a.lo.toNat / 2 ^ (24 - 8) % 256 = n1 at *
 generalize a.lo.toNat / 2 ^ (24 - 16) % 256 = n2 at *
 generalize a.lo.toNat / 2 ^ (24 - 24) % 256 = n3 at *
 have l0 := hl3 n0 b0
 have l1 := hl3 n1 b8
 have l2 := hl3 n2 b16
 have l3 := hl3 n3 b24
 have e46 : (⟨#[46]⟩ : ByteArray) = ofBytes [46] := rfl
 have h0 : R_numberOf_t (subS (ofBytes (bitsTo a.lo.toNat 31 32)) 0 8) = some ((n0 : Int), ()) := h0
 have h8 : R_numberOf_t (subS (ofBytes (bitsTo a.lo.toNat 31 32)) 8 16) = some ((n1 : Int), ()) := h8
 have h16 : R_numberOf_t (subS (ofBytes (bitsTo a.lo.toNat 31 32)) 16 24) = some ((n2 : Int), ()) := h16
 have h24 : R_numberOf_t (subS (ofBytes (bitsTo a.lo.toNat 31 32)) 24 32) = some ((n3 : Int), ()) := h24
 rw [req_of (by decide), h0, bind_s, hd n0 b0, bind_s, e46]
 simp only [catB]
 rw [req_of (roomB _ (by simp; omega)), req_of (by decide), h8, bind_s, hd n1 b8, bind_s]
 simp only [catB]
 rw [req_of (roomB _ (by simp; omega)), req_of (roomB _ (by simp; omega)), req_of (by decide), h16, bind_s, hd n2 b16, bind_s]
 simp only [catB]
 rw [req_of (roomB _ (by simp; omega)), req_of (roomB _ (by simp; omega)), req_of (by decide), h24, bind_s, hd n3 b24, bind_s]
 simp only [catB]
 rw [req_of (roomB _ (by simp; omega))]
theorem TextOf_t {a : Ad} (h : a.In) : R_TextOf_t a = some (ofBytes (textA a), ()) := by
 unfold textA
 cases hv : a.v6
 ·exact TextOf_4 h hv
 ·exact TextOf_16 h hv
end Go.Ma
namespace Go.Ma
open Go
end Go.Ma
namespace Go.Ma
open Go
end Go.Ma
namespace Go.Ma
open Go
end Go.Ma
namespace Go.Ma
open Go
theorem prefix_Over_eq {p q : Pf} (cp : chkP p = 0) (hq : q.In) : prefix_Over_t p q = some (over p q, ()) := by
 obtain ⟨h1, h2⟩ := chkP_bits cp
 unfold prefix_Over_t over
 rw [prefix_Holds_eq h1 h2 hq.1, bind_s, br_sb, bind_s]
 cases decide (p.bits ≤ q.bits) <;> rfl
theorem R_HasPrefix_eq {p q : Pf} (hp : p.In) (cp : chkP p = 0) (hq : q.In) (cq : chkA q.ad = 0) : R_HasPrefix_t p q = some (over p q, ()) := by
 unfold R_HasPrefix_t over
 rw [R_HasAddr_eq hp cp hq.1 cq, bind_s, br_sb, bind_s]
 cases decide (p.bits ≤ q.bits) <;> rfl
end Go.Ma
namespace Go.Ma
open Go
end Go.Ma
namespace Go.Ma
open Go
end Go.Ma
namespace Go.Ma
open Go
end Go.Ma
namespace Go.Ma
open Go
end Go.Ma
namespace Go.Ma
open Go
theorem prefix_two_eq {p q : Pf} (hp : p.In) (hq : q.In) : prefix_two_t [p, q] = some (if chkP p ≠ 0 then chkP p else chkP q, ()) := by
 unfold prefix_two_t
 have hl : loopN prefix_two_L2 FUEL (((), (lenL [p, q], ()), (0, ()), ()), ([p, q], ())) = some (if (if chkP p ≠ 0 then chkP p else chkP q) ≠ 0 then Sum.inl ((((if chkP p ≠ 0 then chkP p else chkP q), ()), ()), ([p, q], ())) else Sum.inr ((), ([p, q], ()))) := by
  rw [show FUEL = (FUEL - 3) + 1 + 1 + 1 from rfl]
  generalize FUEL - 3 = n
  rw [zq6]
  simp only [prefix_two_L2]
  rw [decide_eq_true (show (0 : Int) < lenL [p, q] by simp [lenL]), br_true, req_of (inRange_of (by omega) (by simp [lenL])), show geti [p, q] 0 = some p from rfl, bind_s, prefix_Check_eq hp, bind_s]
  by_cases h1 : chkP p = 0
  ·rw [decide_eq_true (show (chkP p, ()).1 = 0 from h1), Bool.not_true, br_false, req_of (i64ok_of (by omega) (by omega)), zq6]
   simp only [prefix_two_L2]
   rw [decide_eq_true (show (0 : Int) + 1 < lenL [p, q] by simp [lenL]), br_true, req_of (inRange_of (by omega) (by simp [lenL])), show geti [p, q] (0 + 1) = some q from rfl, bind_s, prefix_Check_eq hq, bind_s]
   simp only [h1, ne_eq, not_true, if_false]
   by_cases h2 : chkP q = 0
   ·rw [decide_eq_true (show (chkP q, ()).1 = 0 from h2), Bool.not_true, br_false, req_of (i64ok_of (by omega) (by omega)), zq6]
    simp only [prefix_two_L2]
    rw [decide_eq_false (show ¬ (0 : Int) + 1 + 1 < lenL [p, q] by simp [lenL]), br_false]
    simp [h2]
   ·rw [decide_eq_false (show ¬ (chkP q, ()).1 = 0 from h2), Bool.not_false, br_true]
    simp [h2]
  ·rw [decide_eq_false (show ¬ (chkP p, ()).1 = 0 from h1), Bool.not_false, br_true]
   simp [h1]
 rw [hl, bind_s]
 by_cases h : (if chkP p ≠ 0 then chkP p else chkP q) = 0
 ·rw [if_neg (fun h' => h' h), h]; rfl
 ·rw [if_pos h]; rfl
def hasT (p q : Pf) : Bool × Int × Unit := if chkP p ≠ 0 then (false, chkP p, ()) else if chkP q ≠ 0 then (false, chkP q, ()) else (over p q, 0, ())
theorem prefix_Has_eq {p q : Pf} (hp : p.In) (hq : q.In) : prefix_Has_t p q = some (hasT p q) := by
 unfold prefix_Has_t hasT
 rw [prefix_two_eq hp hq, bind_s]
 by_cases h1 : chkP p = 0
 ·by_cases h2 : chkP q = 0
  ·simp only [h1, h2, ne_eq, not_true, if_false, decide_true, Bool.not_true, br_false, prefix_Over_eq h1 hq, bind_s]
  ·simp only [h1, h2, ne_eq, not_true, not_false_eq_true, if_false, if_true, decide_false, Bool.not_false, br_true]
 ·simp only [h1, ne_eq, not_false_eq_true, if_true, decide_false, Bool.not_false, br_true]
end Go.Ma
namespace Go.Ma
open Go
theorem or_maskC (x k : Nat) (hx : x < 18446744073709551616) (hk : k ≤ 64) (hm : x % 2 ^ k = 0) : aop .or .u64 (x : Int) ((2 ^ k - 1 : Nat) : Int) = ((x + (2 ^ k - 1) : Nat) : Int) := by
 have hp := Nat.two_pow_pos k
 have hle : 2 ^ k ≤ 2 ^ 64 := Nat.pow_le_pow_right (by omega) hk
 obtain ⟨m, rfl⟩ := Nat.dvd_of_mod_eq_zero hm
 have hlt : 2 ^ k * m + 2 ^ k ≤ 18446744073709551616 := by
  have h5 : (18446744073709551616 : Nat) = 2 ^ k * 2 ^ (64 - k) := by rw [← Nat.pow_add]; rw [show k + (64 - k) = 64 by omega]
  rw [h5] at hx ⊢
  have := Nat.lt_of_mul_lt_mul_left hx
  calc 2 ^ k * m + 2 ^ k = 2 ^ k * (m + 1) := by rw [Nat.mul_add, Nat.mul_one]
   _ ≤ _ := Nat.mul_le_mul_left _ this
 have e1 : ∀ n : Nat, n < 18446744073709551616 → (BitVec.ofInt 64 (n : Int)).toNat = n := fun n hn => by
  rw [BitVec.toNat_ofInt]
  have : ((n : Int) % ((2 ^ 64 : Nat) : Int)) = (n : Int) := Int.emod_eq_of_lt (by omega) (by omega)
  rw [this]; rfl
 show IntKind.u64.wrap (((BitVec.ofInt 64 ((2 ^ k * m : Nat) : Int) ||| BitVec.ofInt 64 ((2 ^ k - 1 : Nat) : Int)).toNat : Nat) : Int) = _
 rw [BitVec.toNat_or, e1 _ (by omega), e1 _ (by omega), ← Nat.two_pow_add_eq_or_of_lt (by omega), wrap_u64 (by omega) (by omega)]
def free (p : Pf) : Nat := wid p.ad.v6 - p.bits.toNat
theorem free_facts {p : Pf} (hp : p.In) (cp : chkP p = 0) : free p ≤ wid p.ad.v6 ∧ p.ad.num % 2 ^ free p = 0 ∧ p.ad.num + 2 ^ free p ≤ 2 ^ wid p.ad.v6 := by
 have h3 : p.ad.num % 2 ^ free p = 0 := (cutN_iff _ _).1 ((cutA_iff hp.1.wf p.bits).1 (chkP_cut cp))
 have h4 := right_num p.ad ⟨hp.1.wf, chkP_ad cp⟩
 have hk : free p ≤ wid p.ad.v6 := by unfold free; omega
 refine ⟨hk, h3, ?_⟩
 have h5 : 2 ^ wid p.ad.v6 = 2 ^ free p * 2 ^ (wid p.ad.v6 - free p) := by rw [← Nat.pow_add]; congr 1; omega
 obtain ⟨m, hm⟩ := Nat.dvd_of_mod_eq_zero h3
 rw [hm, h5] at h4 ⊢
 have := Nat.lt_of_mul_lt_mul_left h4
 calc 2 ^ free p * m + 2 ^ free p = 2 ^ free p * (m + 1) := by rw [Nat.mul_add, Nat.mul_one]
  _ ≤ _ := Nat.mul_le_mul_left _ this
theorem low_high (hi lo k : Nat) (h : (hi * 18446744073709551616 + lo) % 2 ^ k = 0) (hlo : lo < 18446744073709551616) : hi % 2 ^ (k - 64) = 0 ∧ lo % 2 ^ (min k 64) = 0 := by
 by_cases hk : k ≤ 64
 ·have h5 : (18446744073709551616 : Nat) = 2 ^ k * 2 ^ (64 - k) := by rw [← Nat.pow_add]; rw [show k + (64 - k) = 64 by omega]
  rw [h5, Nat.mul_left_comm, Nat.mul_add_mod] at h
  rw [show k - 64 = 0 by omega, Nat.min_eq_left hk]
  exact ⟨Nat.mod_one _, h⟩
 ·have e := pow_split (r := k) (by omega)
  rw [Nat.min_eq_right (by omega)]
  rw [e] at h
  have h1 : lo = 0 := by
   have h2 : (hi * 18446744073709551616 + lo) % 18446744073709551616 = 0 := by
    have h3 := Nat.mod_mul_left_mod (hi * 18446744073709551616 + lo) (2 ^ (k - 64)) 18446744073709551616
    rw [h] at h3
    rw [← h3]
   omega
  subst h1
  rw [Nat.add_zero, Nat.mul_mod_mul_right] at h
  refine ⟨?_, by simp⟩
  have := Nat.mul_eq_zero.1 h
  omega
theorem last_eq {p : Pf} (hp : p.In) (cp : chkP p = 0) : prefix_Last_t p = some (lastA p, ()) := by
 obtain ⟨b1, b2⟩ := chkP_bits cp
 obtain ⟨f1, f2, f3⟩ := free_facts hp cp
 have hw := wid_le p.ad.v6
 obtain ⟨⟨h1, h2⟩, h3, h4⟩ := hp.1
 unfold prefix_Last_t
 rw [prefix_mask_eq p.ad p.bits b1 b2, bind_s, maskA_parts]
 show some (_, ()) = some (ofNum p.ad.v6 (p.ad.num + (2 ^ free p - 1)), ())
 obtain ⟨hi, hhi⟩ := Int.eq_ofNat_of_zero_le h1
 obtain ⟨lo, hlo⟩ := Int.eq_ofNat_of_zero_le h3
 have hnum : p.ad.num = hi * 18446744073709551616 + lo := by unfold Ad.num; rw [hhi, hlo]; rfl
 obtain ⟨g1, g2⟩ := low_high hi lo (free p) (by rw [← hnum]; exact f2) (by omega)
 have o1 : aop .or .u64 p.ad.hi ((2 ^ (wid p.ad.v6 - p.bits.toNat - 64) - 1 : Nat) : Int) = ((hi + (2 ^ (free p - 64) - 1) : Nat) : Int) := by
  rw [hhi]
  exact or_maskC hi (free p - 64) (by omega) (by omega) g1
 have o2 : aop .or .u64 p.ad.lo ((2 ^ (min (wid p.ad.v6 - p.bits.toNat) 64) - 1 : Nat) : Int) = ((lo + (2 ^ (min (free p) 64) - 1) : Nat) : Int) := by
  rw [hlo]
  exact or_maskC lo (min (free p) 64) (by omega) (by omega) g2
 simp only [o1, o2]
 obtain ⟨m1, m2⟩ := mask_parts (free p)
 have hlt : lo + (2 ^ (min (free p) 64) - 1) < 18446744073709551616 := by
  have hle : min (free p) 64 ≤ 64 := by omega
  obtain ⟨m, hm⟩ := Nat.dvd_of_mod_eq_zero g2
  have h5 : (18446744073709551616 : Nat) = 2 ^ (min (free p) 64) * 2 ^ (64 - min (free p) 64) := by rw [← Nat.pow_add]; rw [show min (free p) 64 + (64 - min (free p) 64) = 64 by omega]
  have hl : lo < 18446744073709551616 := by omega
  have hpp := Nat.two_pow_pos (min (free p) 64)
  rw [hm, h5] at hl ⊢
  have := Nat.lt_of_mul_lt_mul_left hl
  have h7 : 2 ^ (min (free p) 64) * m + 2 ^ (min (free p) 64) ≤ 2 ^ (min (free p) 64) * 2 ^ (64 - min (free p) 64) := by
   calc 2 ^ (min (free p) 64) * m + 2 ^ (min (free p) 64) = 2 ^ (min (free p) 64) * (m + 1) := by rw [Nat.mul_add, Nat.mul_one]
    _ ≤ _ := Nat.mul_le_mul_left _ this
  omega
 have hsum : p.ad.num + (2 ^ free p - 1) = (hi + (2 ^ (free p - 64) - 1)) * 18446744073709551616 + (lo + (2 ^ (min (free p) 64) - 1)) := by
  rw [← m1, ← m2, hnum]
  omega
 rw [hsum]
 unfold ofNum
 congr 2
 simp only [Ad.mk.injEq, true_and]
 constructor <;> omega
theorem last_num {p : Pf} (hp : p.In) (cp : chkP p = 0) : (lastA p).num = p.ad.num + (2 ^ free p - 1) ∧ (lastA p).v6 = p.ad.v6 := by
 unfold lastA
 rw [num_ofNum]
 exact ⟨rfl, rfl⟩
theorem ofNum_inC {v : Bool} {n : Nat} (h : n < 2 ^ wid v) : (ofNum v n).In := by
 have : 2 ^ wid v ≤ 340282366920938463463374607431768211456 := by cases v <;> decide
 unfold ofNum
 exact ⟨⟨by simp only; omega, by simp only; omega⟩, by simp only; omega, by simp only; omega⟩
theorem ofNum_chkC {v : Bool} {n : Nat} (h : n < 2 ^ wid v) : chkA (ofNum v n) = 0 := by
 unfold chkA ofNum
 cases v
 ·rw [show wid false = 32 from rfl] at h
  rw [if_neg]
  simp only
  omega
 ·simp
theorem last_in {p : Pf} (hp : p.In) (cp : chkP p = 0) : (lastA p).In ∧ chkA (lastA p) = 0 := by
 obtain ⟨f1, f2, f3⟩ := free_facts hp cp
 have hpp := Nat.two_pow_pos (free p)
 have : p.ad.num + (2 ^ free p - 1) < 2 ^ wid p.ad.v6 := by omega
 exact ⟨ofNum_inC this, ofNum_chkC this⟩
def endsT (p : Pf) : Ad × Ad × Int × Unit := if chkP p ≠ 0 then (⟨false, 0, 0⟩, ⟨false, 0, 0⟩, chkP p, ()) else (p.ad, lastA p, 0, ())
theorem prefix_Ends_eq {p : Pf} (hp : p.In) : prefix_Ends_t p = some (endsT p) := by
 unfold prefix_Ends_t endsT
 rw [prefix_Check_eq hp, bind_s]
 by_cases h : chkP p = 0
 ·rw [decide_eq_true (show (chkP p, ()).1 = 0 from h), Bool.not_true, br_false, last_eq hp h, bind_s, if_neg (fun h' => h' h)]
 ·rw [decide_eq_false (show ¬ (chkP p, ()).1 = 0 from h), Bool.not_false, br_true, if_pos h]
end Go.Ma
namespace Go.Ma
open Go
structure Good (p : Pf) (m : List Ls) : Prop where
 ins : lsIn m
 chk : ∀ x ∈ m, chkLs x = 0
 held : ∀ x ∈ m, holds p x.ad = true
 asc : m.Pairwise fun x y => rank x.ad < rank y.ad
 whos : m.Pairwise fun x y => x.who ≠ y.who
structure Given (p : Pf) (kp : List Ad) (l : List Ls) (who : ByteArray) (now u : Int) (m : List Ls) (a : Ad) : Prop where
 good : Good p m
 alive : ∀ x ∈ m, now ≤ x.upto
 mine : (⟨a, who, u⟩ : Ls) ∈ m
 others : ∀ x ∈ l, now ≤ x.upto → x.who ≠ who → x ∈ m
 fresh : (∀ x ∈ l, now ≤ x.upto → x.who ≠ who) → ∀ x ∈ kp, x ≠ a
end Go.Ma
namespace Go.Ma
open Go
end Go.Ma
namespace Go.Ma
open Go
end Go.Ma
namespace Go.Ma
open Go
end Go.Ma
namespace Go.Ma
open Go
section
variable {α A R : Type}
end
def pfIn (l : List Pf) : Prop := ∀ p ∈ l, p.In ∧ chkP p = 0
def meets (p q : Pf) : Bool := over p q || over q p
end Go.Ma
namespace Go.Ma
open Go
end Go.Ma
namespace Go.Ma
open Go
def apartP (p q : Pf) : Prop := ordP p q < 0 ∧ meets p q = false
def kpIn (ks : List (List Ad)) : Prop := ∀ k ∈ ks, adIn k
end Go.Ma
namespace Go.Ma
open Go
end Go.Ma
namespace Go.Ma
open Go
structure StOk (ps : List Pf) (ks : List (List Ad)) (ls : List Ls) (now : Int) : Prop where
 pin : pfIn ps
 kin : kpIn ks
 lin : lsIn ls
 klen : ks.length = ps.length
 plen : ps.length ≤ 3
 pool : ∀ (i : Nat) (p : Pf), ps[i]? = some p → chkPool p (ks.getD i []) = 0
 pair : ps.Pairwise apartP
 time : betw now 0 9999 = true
 all : allC ls now = 0
 has : ∀ x ∈ ls, ∃ p ∈ ps, holds p x.ad = true
 upto : ∀ x ∈ ls, now ≤ x.upto
 who : ls.Pairwise fun x y => x.who ≠ y.who
end Go.Ma
namespace Go.Ma
open Go
section
variable {A R α : Type}
end
end Go.Ma
namespace Go.Ma
open Go
end Go.Ma
namespace Go.Ma
open Go
end Go.Ma
namespace Go.Ma
open Go
end Go.Ma
namespace Go.Ma
open Go
end Go.Ma
