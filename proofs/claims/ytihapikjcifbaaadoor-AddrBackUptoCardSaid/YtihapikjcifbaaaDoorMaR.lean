/-
  THE MACHINE, part R: arguments that read as plain data are typed arguments of the machine; what they hold fits its kinds.
-/
import Derived.Test.YtihapikjcifbaaaDoorMaG
import Derived.ProofKit
import Derived.Deep.Slices
import Derived.Below
namespace Go.Ma
open Go Go.RowKit

/-! What a datum fits. -/
def i64In (x : Int) : Prop := -9223372036854775808 ≤ x ∧ x < 9223372036854775808
def u64In (x : Int) : Prop := 0 ≤ x ∧ x < 18446744073709551616
def u8In (x : Int) : Prop := 0 ≤ x ∧ x < 256
def strIn (s : ByteArray) : Prop := s.size ≤ maxLen
def Ad.In (a : Ad) : Prop := u64In a.hi ∧ u64In a.lo
def Pf.In (p : Pf) : Prop := p.ad.In ∧ i64In p.bits
def Ls.In (x : Ls) : Prop := x.ad.In ∧ strIn x.who ∧ i64In x.upto
def Oq.In (o : Oq) : Prop := i64In o.kind ∧ o.pf.In ∧ o.ad.In ∧ strIn o.who ∧ i64In o.of_ ∧ i64In o.n
def En.In (e : En) : Prop := i64In e.num ∧ i64In e.epoch ∧ e.op.In
def Ev.In (e : Ev) : Prop := i64In e.kind ∧ i64In e.who ∧ i64In e.n ∧ e.op.In
def K.In : (k : K) → k.T → Prop
  | .int => i64In | .u64 => u64In | .u8 => u8In | .bool => fun _ => True | .str => strIn
  | .addr => Ad.In | .pfx => Pf.In | .lease => Ls.In | .op => Oq.In | .entry => En.In | .event => Ev.In
/-- A row: no longer than memory is great, each element fits. -/
def rowIn (k : K) (l : List k.T) : Prop := l.length ≤ maxLen ∧ ∀ a ∈ l, k.In a
def Seg.In : (s : Seg) → s.T → Prop
  | .fl k, x => k.In x
  | .row k _, l => rowIn k l
def SegsIn : (l : List Seg) → SegsT l → Prop
  | [], _ => True
  | s :: r, x => s.In x.1 ∧ SegsIn r x.2
def PS.In : (p : PS) → p.T → Prop
  | .one s, x => s.In x
  | .agg l, x => SegsIn l x
  | .ref l _, x => SegsIn l x
def PsIn : (ps : List PS) → PsT ps → Prop
  | [], _ => True
  | p :: r, x => p.In x.1 ∧ PsIn r x.2

/-- Its rows, and its strings, are no longer than M. -/
def K.Le (M : Nat) : (k : K) → k.T → Prop
  | .str, (s : ByteArray) => s.size ≤ M
  | _, _ => True
def Seg.Le (M : Nat) : (s : Seg) → s.T → Prop
  | .fl k, x => k.Le M x
  | .row _ _, l => l.length ≤ M
def SegsLe (M : Nat) : (l : List Seg) → SegsT l → Prop
  | [], _ => True
  | s :: r, x => s.Le M x.1 ∧ SegsLe M r x.2
def PS.Le (M : Nat) : (p : PS) → p.T → Prop
  | .one s, x => s.Le M x
  | .agg l, x => SegsLe M l x
  | .ref l _, x => SegsLe M l x
def PsLe (M : Nat) : (ps : List PS) → PsT ps → Prop
  | [], _ => True
  | p :: r, x => p.Le M x.1 ∧ PsLe M r x.2

/-! Types as rows of leaves. -/
inductive Lf where
  | bool | int (k : IntKind) | str | row (e : TypeId)
  deriving DecidableEq
def adL : List Lf := [.bool, .int .u64, .int .u64]
def pfL : List Lf := adL ++ [.int .i64]
def opL : List Lf := [.int .i64] ++ pfL ++ adL ++ [.str, .int .i64, .int .i64]
def K.leaves : K → List Lf
  | .int => [.int .i64] | .u64 => [.int .u64] | .u8 => [.int .u8] | .bool => [.bool] | .str => [.str]
  | .addr => adL | .pfx => pfL | .lease => adL ++ [.str, .int .i64] | .op => opL
  | .entry => [.int .i64, .int .i64] ++ opL | .event => [.int .i64, .int .i64, .int .i64] ++ opL
def shapeFs (P : Program) (rec : TypeId → Option (List Lf)) : List Field → Nat → Option (List Lf)
  | [], _ => some []
  | f :: r, off =>
    match rec f.type, shapeFs P rec r (off + P.cellsOf f.type) with
    | some l, some l' => if f.offset = off ∧ P.cellsOf f.type = l.length then some (l ++ l') else none
    | _, _ => none
def shapeOf (P : Program) : Nat → TypeId → Option (List Lf)
  | 0, _ => none
  | n + 1, t =>
    match P.underlying t with
    | some .bool => some [.bool]
    | some (.int k) => some [.int k]
    | some .string => some [.str]
    | some (.slice e) => some [.row e]
    | some (.struct fs) => match shapeFs P (shapeOf P n) fs.toList 0 with | some l => if P.cellsOf t = l.length then some l else none | none => none
    | _ => none

section
variable {H : Type} {enc : TypeId × Value → H} {P : Program} {W : World} {M : Nat}
/-- What a leaf's cell is. -/
def LfIs (M : Nat) (enc : TypeId × Value → H) (P : Program) (W : World) : Lf → Value → Prop
  | .bool, v => ∃ b, v = .bool b
  | .int k, v => ∃ n, v = .int k n ∧ (Lit.int k n).wf = true
  | .str, v => ∃ s, v = .string s ∧ s.size ≤ maxLen ∧ s.size ≤ M
  | .row e, v => v = .slice none 0 0 ∨ ∃ a len cap, v = .slice (some a) len cap ∧ len ≤ cap ∧ cap ≤ maxLen ∧ len ≤ M ∧ ∀ i, i < len → ∃ cs n y, W.cells? 0 (a.add (i * P.cellsOf e)) (P.cellsOf e) = some cs ∧ DataW.trod enc P W 0 (fun _ => true) true n e cs = some y
def LfsIs (M : Nat) (enc : TypeId × Value → H) (P : Program) (W : World) : List Lf → List Value → Prop
  | [], [] => True
  | l :: ls, v :: vs => LfIs M enc P W l v ∧ LfsIs M enc P W ls vs
  | _, _ => False
/-- What is said of data: no slice has more elements than M. -/
structure Small (M : Nat) (S : DataW H → Prop) : Prop where
  slice : ∀ es sp, es.length ≤ maxLen → S (.slice es sp) → es.length ≤ M
  agg : ∀ ps p, p ∈ ps → S (.agg ps) → S p
  str : ∀ s, s.length ≤ maxLen → S (.lit (.string s)) → s.length ≤ M
variable {S : DataW H → Prop} (hS : Small M S)
theorem small_true : Small (H := H) maxLen (fun _ => True) := ⟨fun _ _ h _ => h, fun _ _ _ _ => trivial, fun _ h _ => h⟩
theorem LfsIs.app : ∀ {l l' : List Lf} {vs vs' : List Value}, LfsIs M enc P W l vs → LfsIs M enc P W l' vs' → LfsIs M enc P W (l ++ l') (vs ++ vs')
  | [], _, [], _, _, h' => h'
  | [], _, _ :: _, _, h, _ => h.elim
  | _ :: _, _, [], _, h, _ => h.elim
  | _ :: _, _, _ :: _, _, h, h' => ⟨h.1, LfsIs.app h.2 h'⟩
theorem shapeFs_ok {n m : Nat} {cs : List Value}
    (ih : ∀ (t : TypeId) (ls : List Lf) (cs : List Value) x, shapeOf P n t = some ls → DataW.trod enc P W 0 (fun _ => true) true m t cs = some x → S x.1 → LfsIs M enc P W ls cs) :
    ∀ (fl : List Field) (off : Nat) (l : List Lf), (∀ f ∈ fl, ∃ y, DataW.trod enc P W 0 (fun _ => true) true m f.type ((cs.drop f.offset).take (P.cellsOf f.type)) = some y ∧ S y.1) →
      shapeFs P (shapeOf P n) fl off = some l → LfsIs M enc P W l ((cs.drop off).take l.length)
  | [], _, l, _, h => by
    simp only [shapeFs, Option.some.injEq] at h
    subst h
    simp [LfsIs]
  | f :: r, off, l, hf, h => by
    simp only [shapeFs] at h
    split at h
    · rename_i l1 l2 h1 h2
      split at h
      · rename_i hc
        obtain ⟨hoff, hlen⟩ := hc
        injection h with h
        subst h
        obtain ⟨y, hy, hsy⟩ := hf f (by simp)
        have a1 := ih _ _ _ _ h1 hy hsy
        have a2 := shapeFs_ok ih r _ l2 (fun g hg => hf g (by simp [hg])) h2
        rw [hoff, hlen] at a1
        rw [hlen, ← List.drop_drop] at a2
        rw [List.length_append, List.take_add]
        exact a1.app a2
      · cases h
    · cases h
include hS in
theorem shape_ok : ∀ (n m : Nat) (t : TypeId) (ls : List Lf) (cs : List Value) x, shapeOf P n t = some ls → DataW.trod enc P W 0 (fun _ => true) true m t cs = some x → S x.1 → LfsIs M enc P W ls cs
  | 0, _, _, _, _, _, h, _, _ => by simp [shapeOf] at h
  | n + 1, m, t, ls, cs, x, h, hx, hsx => by
    unfold shapeOf at h
    split at h
    · rename_i hu
      injection h with h
      subst h
      cases m with
      | zero => simp [DataW.trod] at hx
      | succ m =>
        unfold DataW.trod at hx
        rw [hu] at hx
        split at hx <;> simp_all [LfsIs, LfIs]
    · rename_i k hu
      injection h with h
      subst h
      cases m with
      | zero => simp [DataW.trod] at hx
      | succ m =>
        unfold DataW.trod at hx
        rw [hu] at hx
        split at hx <;> simp_all [LfsIs, LfIs]
    · rename_i hu
      injection h with h
      subst h
      cases m with
      | zero => simp [DataW.trod] at hx
      | succ m =>
        have hstr := fun s => hS.str s
        unfold DataW.trod at hx
        rw [hu] at hx
        split at hx <;> simp_all [LfsIs, LfIs]
        obtain ⟨hx1, rfl⟩ := hx
        have := hstr _ (by simpa using hx1) hsx
        simpa using this
    · rename_i e hu
      injection h with h
      subst h
      rcases Go.Deep.open_slice hu hx with ⟨rfl, _⟩ | ⟨a, len, cap, k, q, D, Pl, rfl, _, hl, hm, hk, hxe, hi⟩
      · exact ⟨.inl rfl, trivial⟩
      · have hlen : len ≤ M := by
          rw [hxe] at hsx
          have := hS.slice _ _ (by simp; omega) hsx
          simpa using this
        refine ⟨.inr ⟨a, len, cap, rfl, hl, hm, hlen, fun i hil => ?_⟩, trivial⟩
        obtain ⟨cs', h1, h2⟩ := hi i (by simp at hk; omega)
        exact ⟨cs', q, _, h1, h2⟩
    · rename_i fs hu
      split at h
      · rename_i l hl
        split at h
        · rename_i hlen
          injection h with h
          subst h
          obtain ⟨xs, q, rfl, hxe, hc, hxs, hf⟩ := DataW.trod_struct hu hx
          rw [hxe] at hsx
          have := shapeFs_ok (enc := enc) (W := W) (cs := cs) (fun t ls cs x => shape_ok n q t ls cs x) fs.toList 0 l (fun f hfm => by
            obtain ⟨i, hi⟩ := List.mem_iff_getElem?.1 hfm
            have hi' : fs[i]? = some f := by simpa using hi
            have := hf i f hi'
            have hil : i < xs.length := by rw [hxs]; exact (Array.getElem?_eq_some_iff.1 hi').1
            exact ⟨_, this.trans (List.getElem?_eq_getElem hil), hS.agg _ _ (List.mem_map.2 ⟨_, List.getElem_mem hil, rfl⟩) hsx⟩) hl
          rw [List.drop_zero, List.take_of_length_le (by omega)] at this
          exact this
        · cases h
      · cases h
    · cases h

/-! Leaves as a datum. -/
theorem u64_wf {n : Int} (h : (Lit.int .u64 n).wf = true) : u64In n := by
  simp only [Lit.wf, IntKind.min, IntKind.max, IntKind.signed, IntKind.bits, Bool.and_eq_true, decide_eq_true_eq] at h
  unfold u64In
  obtain ⟨h1, h2⟩ := h
  have h1' : (0 : Int) ≤ n := by simpa using h1
  have h2' : n ≤ 18446744073709551615 := by simpa using h2
  omega
theorem i64_wf {n : Int} (h : (Lit.int .i64 n).wf = true) : i64In n := by
  simp only [Lit.wf, IntKind.min, IntKind.max, IntKind.signed, IntKind.bits, Bool.and_eq_true, decide_eq_true_eq] at h
  unfold i64In
  obtain ⟨h1, h2⟩ := h
  have h1' : (-9223372036854775808 : Int) ≤ n := by simpa using h1
  have h2' : n ≤ 9223372036854775807 := by simpa using h2
  omega
theorem u8_wf {n : Int} (h : (Lit.int .u8 n).wf = true) : u8In n := by
  simp only [Lit.wf, IntKind.min, IntKind.max, IntKind.signed, IntKind.bits, Bool.and_eq_true, decide_eq_true_eq] at h
  unfold u8In
  obtain ⟨h1, h2⟩ := h
  have h1' : (0 : Int) ≤ n := by simpa using h1
  have h2' : n ≤ 255 := by simpa using h2
  omega
theorem lfs_nil {cs : List Value} (h : LfsIs M enc P W [] cs) : cs = [] := by
  cases cs with
  | nil => rfl
  | cons c r => exact h.elim
theorem lfs_cons {l : Lf} {ls : List Lf} {cs : List Value} (h : LfsIs M enc P W (l :: ls) cs) : ∃ c r, cs = c :: r ∧ LfIs M enc P W l c ∧ LfsIs M enc P W ls r := by
  cases cs with
  | nil => exact h.elim
  | cons c r => exact ⟨c, r, rfl, h.1, h.2⟩
theorem ad_read {ls : List Lf} {cs : List Value} (h : LfsIs M enc P W (adL ++ ls) cs) : ∃ (a : Ad) (r : List Value), cs = [.bool a.v6, .int .u64 a.hi, .int .u64 a.lo] ++ r ∧ a.In ∧ LfsIs M enc P W ls r := by
  obtain ⟨c, r, rfl, ⟨b, rfl⟩, h_1⟩ := lfs_cons h
  obtain ⟨c, r, rfl, ⟨x, rfl, hx⟩, h_2⟩ := lfs_cons h_1
  obtain ⟨c, r, rfl, ⟨y, rfl, hy⟩, h_3⟩ := lfs_cons h_2
  exact ⟨⟨b, x, y⟩, r, rfl, ⟨u64_wf hx, u64_wf hy⟩, h_3⟩
theorem int_read {ls : List Lf} {cs : List Value} (h : LfsIs M enc P W (.int .i64 :: ls) cs) : ∃ (n : Int) (r : List Value), cs = [.int .i64 n] ++ r ∧ i64In n ∧ LfsIs M enc P W ls r := by
  obtain ⟨c, r, rfl, ⟨x, rfl, hx⟩, h_1⟩ := lfs_cons h
  exact ⟨x, r, rfl, i64_wf hx, h_1⟩
theorem str_read {ls : List Lf} {cs : List Value} (h : LfsIs M enc P W (.str :: ls) cs) : ∃ (n : ByteArray) (r : List Value), cs = [.string n] ++ r ∧ strIn n ∧ LfsIs M enc P W ls r := by
  obtain ⟨c, r, rfl, ⟨x, rfl, hx⟩, h_1⟩ := lfs_cons h
  exact ⟨x, r, rfl, hx.1, h_1⟩
theorem pf_read {ls : List Lf} {cs : List Value} (h : LfsIs M enc P W (pfL ++ ls) cs) : ∃ (a : Pf) (r : List Value), cs = [.bool a.ad.v6, .int .u64 a.ad.hi, .int .u64 a.ad.lo, .int .i64 a.bits] ++ r ∧ a.In ∧ LfsIs M enc P W ls r := by
  obtain ⟨a, r, rfl, ha, h⟩ := ad_read (ls := .int .i64 :: ls) h
  obtain ⟨n, r, rfl, hn, h_1⟩ := int_read h
  exact ⟨⟨a, n⟩, r, rfl, ⟨ha, hn⟩, h_1⟩
theorem op_read {ls : List Lf} {cs : List Value} (h : LfsIs M enc P W (opL ++ ls) cs) : ∃ (o : Oq) (r : List Value), (∀ ρ, cs = denL ρ (K.enc .op o) ++ r) ∧ o.In ∧ LfsIs M enc P W ls r := by
  obtain ⟨k, r, rfl, hk, h⟩ := int_read (ls := pfL ++ (adL ++ (.str :: .int .i64 :: .int .i64 :: ls))) h
  obtain ⟨p, r, rfl, hp, h_1⟩ := pf_read h
  obtain ⟨a, r, rfl, ha, h_2⟩ := ad_read h_1
  obtain ⟨s, r, rfl, hs, h_3⟩ := str_read h_2
  obtain ⟨x, r, rfl, hx, h_4⟩ := int_read h_3
  obtain ⟨y, r, rfl, hy, h_5⟩ := int_read h_4
  exact ⟨⟨k, p, a, s, x, y⟩, r, fun ρ => rfl, ⟨hk, hp, ha, hs, hx, hy⟩, h_5⟩
/-- The leaves of a kind are a datum of it. -/
theorem k_read (k : K) {ls : List Lf} {cs : List Value} (h : LfsIs M enc P W (k.leaves ++ ls) cs) : ∃ (a : k.T) (r : List Value), (∀ ρ, cs = denL ρ (k.enc a) ++ r) ∧ k.In a ∧ LfsIs M enc P W ls r ∧ k.Le M a := by
  cases k with
  | int => obtain ⟨n, r, rfl, hn, h'⟩ := int_read h; exact ⟨n, r, fun ρ => rfl, hn, h', trivial⟩
  | u64 => obtain ⟨c, r, rfl, ⟨x, rfl, hx⟩, h'⟩ := lfs_cons h; exact ⟨x, r, fun ρ => rfl, u64_wf hx, h', trivial⟩
  | u8 => obtain ⟨c, r, rfl, ⟨x, rfl, hx⟩, h'⟩ := lfs_cons h; exact ⟨x, r, fun ρ => rfl, u8_wf hx, h', trivial⟩
  | bool => obtain ⟨c, r, rfl, ⟨x, rfl⟩, h'⟩ := lfs_cons h; exact ⟨x, r, fun ρ => rfl, trivial, h', trivial⟩
  | str => obtain ⟨c, r, rfl, ⟨x, rfl, hx, hM⟩, h'⟩ := lfs_cons h; exact ⟨x, r, fun ρ => rfl, hx, h', hM⟩
  | addr => obtain ⟨n, r, rfl, hn, h'⟩ := ad_read h; exact ⟨n, r, fun ρ => rfl, hn, h', trivial⟩
  | pfx => obtain ⟨n, r, rfl, hn, h'⟩ := pf_read h; exact ⟨n, r, fun ρ => rfl, hn, h', trivial⟩
  | lease =>
    obtain ⟨a, r, rfl, ha, h⟩ := ad_read (ls := .str :: .int .i64 :: ls) h
    obtain ⟨s, r, rfl, hs, h_1⟩ := str_read h
    obtain ⟨n, r, rfl, hn, h_2⟩ := int_read h_1
    exact ⟨(⟨a, s, n⟩ : Ls), r, fun ρ => rfl, ⟨ha, hs, hn⟩, h_2, trivial⟩
  | op =>
    obtain ⟨o, r, h1, h2, h_3⟩ := op_read h
    exact ⟨o, r, h1, h2, h_3, trivial⟩
  | entry =>
    obtain ⟨x, r, rfl, hx, h⟩ := int_read (ls := .int .i64 :: (opL ++ ls)) h
    obtain ⟨y, r, rfl, hy, h_4⟩ := int_read h
    obtain ⟨o, r, h1, h2, h_5⟩ := op_read h_4
    exact ⟨(⟨x, y, o⟩ : En), r, fun ρ => by rw [h1 ρ]; rfl, ⟨hx, hy, h2⟩, h_5, trivial⟩
  | event =>
    obtain ⟨x, r, rfl, hx, h⟩ := int_read (ls := .int .i64 :: .int .i64 :: (opL ++ ls)) h
    obtain ⟨y, r, rfl, hy, h_6⟩ := int_read h
    obtain ⟨z, r, rfl, hz, h_7⟩ := int_read h_6
    obtain ⟨o, r, h1, h2, h_8⟩ := op_read h_7
    exact ⟨(⟨x, y, z, o⟩ : Ev), r, fun ρ => by rw [h1 ρ]; rfl, ⟨hx, hy, hz, h2⟩, h_8, trivial⟩
theorem k_read1 (k : K) {cs : List Value} (h : LfsIs M enc P W k.leaves cs) : ∃ a : k.T, (∀ ρ, cs = denL ρ (k.enc a)) ∧ k.In a ∧ k.Le M a := by
  obtain ⟨a, r, h1, h2, h3, h4⟩ := k_read (ls := []) k (by simpa using h)
  rw [lfs_nil h3] at h1
  exact ⟨a, fun ρ => by simpa using h1 ρ, h2, h4⟩

/-- The elements of a slice. -/
theorem row_read (k : K) (a0 : Addr) (e : TypeId) (d : Nat) (hsh : shapeOf P d e = some k.leaves) (hsz : P.cellsOf e = k.sz) :
    ∀ n, (∀ i, i < n → ∃ cs q y, W.cells? 0 (a0.add (i * P.cellsOf e)) (P.cellsOf e) = some cs ∧ DataW.trod enc P W 0 (fun _ => true) true q e cs = some y) →
      ∃ l : List k.T, l.length = n ∧ (∀ a ∈ l, k.In a) ∧ ∀ ρ (j : Nat) (u : Value), (l.flatMap fun a => denL ρ (k.enc a))[j]? = some u → W.cell? (a0.add j) = some u
  | 0, _ => ⟨[], rfl, (fun a h => by cases h), fun ρ j u h => by simp at h⟩
  | n + 1, h => by
    obtain ⟨l, h1, h2, h3⟩ := row_read k a0 e d hsh hsz n (fun i hi => h i (by omega))
    obtain ⟨cs, q, y, hc, hy⟩ := h n (by omega)
    obtain ⟨a, ha, hin, _⟩ := k_read1 k (shape_ok (M := maxLen) (S := fun _ => True) small_true d q e _ cs y hsh hy trivial)
    obtain ⟨_, hcl, hcc⟩ := World.cells?_some hc
    refine ⟨l ++ [a], by simp [h1], fun b hb => ?_, fun ρ j u hj => ?_⟩
    · rcases List.mem_append.1 hb with hb | hb
      · exact h2 b hb
      · simp only [List.mem_singleton] at hb; subst hb; exact hin
    · have hfl : (l.flatMap fun a => denL ρ (k.enc a)).length = n * k.sz := by
        have : ∀ l : List k.T, (l.flatMap fun a => denL ρ (k.enc a)).length = l.length * k.sz := by
          intro l
          induction l with
          | nil => simp
          | cons b r ih => rw [List.flatMap_cons, List.length_append, ih, denL_length, enc_len, List.length_cons, Nat.succ_mul, Nat.add_comm]
        rw [this, h1]
      rw [List.flatMap_append] at hj
      by_cases hjn : j < n * k.sz
      · rw [List.getElem?_append_left (by rw [hfl]; exact hjn)] at hj
        exact h3 ρ j u hj
      · rw [List.getElem?_append_right (by rw [hfl]; omega), hfl] at hj
        have hj' : cs[j - n * k.sz]? = some u := by simpa [ha ρ] using hj
        have hjl : j - n * k.sz < P.cellsOf e := by rw [← hcl]; exact (List.getElem?_eq_some_iff.1 hj').1
        have := hcc _ hjl
        rw [Go.Deep.add_add, hsz, show n * k.sz + (j - n * k.sz) = j by omega] at this
        rw [this, hj']

/-! Parameters. -/
def segLfs : List Seg → List Lf
  | [] => []
  | .fl k :: r => k.leaves ++ segLfs r
  | .row _ e :: r => .row e :: segLfs r
def segsFit (P : Program) : List Seg → Bool
  | [] => true
  | .fl _ :: r => segsFit P r
  | .row k e :: r => decide (shapeOf P 9 e = some k.leaves) && decide (P.cellsOf e = k.sz) && segsFit P r
def isStructT (P : Program) (t : TypeId) : Bool := match P.underlying t with | some (.struct _) => true | _ => false
def plainT (P : Program) (t : TypeId) : Bool := match P.underlying t with | some .bool => true | some (.int _) => true | some .string => true | some (.slice _) => true | _ => false
def psFit (P : Program) : PS → TypeId → Bool
  | .one (.fl k), t => (bif k.isAgg then isStructT P t else plainT P t) && decide (shapeOf P 9 t = some k.leaves)
  | .one (.row k e), t => plainT P t && decide (shapeOf P 9 t = some [.row e]) && segsFit P [.row k e]
  | .agg l, t => isStructT P t && decide (shapeOf P 9 t = some (segLfs l)) && segsFit P l
  | .ref _ _, _ => false
def allFit (P : Program) : List PS → List TypeId → Bool
  | [], [] => true
  | p :: r, t :: ts => psFit P p t && allFit P r ts
  | _, _ => false
/-- Where a slice lies, there is a block. -/
theorem lies {r : Reach} {b : Nat} {u : TypeId} {a : Addr} {len cap : Nat} (h : Cell.okWide P W r b u (.slice (some a) len cap)) : a.block < W.heap.size := by
  unfold Cell.okWide at h
  split at h
  all_goals first | (rename_i h2; cases h2; done) | skip
  unfold Cell.ok at h
  split at h
  all_goals first | exact h.elim | skip
  all_goals first | (rename_i h2; cases h2; done) | skip
  rename_i h1 h2
  cases h2
  obtain ⟨_, _, _, _, row, cells, hs, _⟩ := h
  unfold World.shape? at hs
  cases hb : W.heap[a.block]? with
  | none => rw [hb] at hs; simp at hs
  | some o => exact (Array.getElem?_eq_some_iff.1 hb).1
/-- Where the slices among cells lie. -/
def Lie (W : World) (cs : List Value) : Prop := ∀ a len cap, Value.slice (some a) len cap ∈ cs → a.block < W.heap.size
theorem row_seg (w : World) (ρ : Nat → Value) (k : K) (e : TypeId) (v : Value) (n : Nat) (h : LfIs M enc P w (.row e) v) (hl : ∀ a len cap, v = Value.slice (some a) len cap → a.block < w.heap.size)
    (hsh : shapeOf P 9 e = some k.leaves) (hsz : P.cellsOf e = k.sz) : ∃ l : List k.T, (rowIn k l ∧ l.length ≤ M) ∧ ArgsOk w ρ n [v] [.row n] [.row (.ty k l) e false] [v] := by
  have fin : ∀ (l : List k.T) (len cap : Nat) (A : Option Addr), v = .slice A len cap → l.length = len → RowIs w v l.length k.sz (l.flatMap fun a => denL ρ (k.enc a)) → ArgsOk w ρ n [v] [.row n] [.row (.ty k l) e false] [v] := by
    intro l len cap A hv hlen hr
    refine ⟨rfl, fun ρ' hg => by simp [denL, den, hg.head, hv, sliceVal], fun W' ρ' hg i o u hi hu => ?_, by simp [ltL, SV.lt], fun o ho => by simp at ho; subst ho; rfl⟩
    cases i with
    | zero =>
      simp only [List.getElem?_cons_zero, Option.some.injEq] at hi hu
      subst hi hu
      exact ⟨row_obj e hr, rfl⟩
    | succ i => simp at hi
  rcases h with hv | ⟨a, len, cap, hv, hle, hm, hM, hi⟩
  · exact ⟨[], ⟨⟨Nat.zero_le _, fun a h => by cases h⟩, Nat.zero_le _⟩, fin [] 0 0 none hv rfl ⟨by simp, none, 0, hv, Nat.le_refl _, Nat.zero_le _, fun _ => rfl, fun a h => by cases h⟩⟩
  · obtain ⟨l, h1, h2, h3⟩ := row_read (enc := enc) k a e 9 hsh hsz len hi
    refine ⟨l, ⟨⟨by omega, h2⟩, by omega⟩, fin l len cap (some a) hv h1 ⟨?_, some a, cap, by rw [hv, h1], by omega, hm, (fun h => by cases h), fun b hb => ?_⟩⟩
    · have : ∀ l : List k.T, (l.flatMap fun a => denL ρ (k.enc a)).length = l.length * k.sz := by
        intro l
        induction l with
        | nil => simp
        | cons b r ih => rw [List.flatMap_cons, List.length_append, ih, denL_length, enc_len, List.length_cons, Nat.succ_mul, Nat.add_comm]
      exact this l
    · cases hb
      exact ⟨hl a len cap hv, fun j u hj => h3 ρ j u hj⟩
theorem fl_seg (w : World) (ρ : Nat → Value) (k : K) (a : k.T) (cs : List Value) (n : Nat) (h : ∀ ρ, cs = denL ρ (k.enc a)) : ArgsOk w ρ n cs (k.enc a) [] [] :=
  ⟨rfl, fun ρ' _ => (h ρ').symm, fun _ _ _ i o v h => by simp at h, enc_lt k a _, fun o h => by cases h⟩
theorem segs_read (w : World) (ρ : Nat → Value) : ∀ (l : List Seg) (cs : List Value) (n : Nat), segsFit P l = true → LfsIs M enc P w (segLfs l) cs → Lie w cs →
    ∃ x : SegsT l, (SegsIn l x ∧ SegsLe M l x) ∧ ∃ us, ArgsOk w ρ n cs (encSegs false l x n).1 (encSegs false l x n).2 us
  | [], cs, n, _, h, _ => by
    rw [lfs_nil h]
    exact ⟨(), ⟨trivial, trivial⟩, [], ArgsOk.nil w ρ n⟩
  | .fl k :: r, cs, n, hf, h, hL => by
    obtain ⟨a, cs', h1, h2, h3, h4⟩ := k_read k h
    have e1 := h1 ρ
    obtain ⟨x, hx, us, hu⟩ := segs_read w ρ r cs' n hf h3 (fun a l c hm => hL a l c (by rw [e1]; exact List.mem_append_right _ hm))
    refine ⟨(a, x), ⟨⟨h2, hx.1⟩, h4, hx.2⟩, us, ?_⟩
    have h0 := fl_seg w ρ k a (denL ρ (k.enc a)) n (fun ρ' => denL_enc ρ' ρ k a)
    have := h0.app hu
    rw [← e1] at this
    exact this
  | .row k e :: r, cs, n, hf, h, hL => by
    obtain ⟨v, cs', rfl, h1, h2⟩ := lfs_cons h
    simp only [segsFit, Bool.and_eq_true, decide_eq_true_eq] at hf
    obtain ⟨l, hl, hrow⟩ := row_seg w ρ k e v n h1 (fun a len cap hv => hL a len cap (by simp [hv])) hf.1.1 hf.1.2
    obtain ⟨x, hx, us, hu⟩ := segs_read w ρ r cs' (n + 1) hf.2 h2 (fun a l c hm => hL a l c (by simp [hm]))
    exact ⟨(l, x), ⟨⟨hl.1, hx.1⟩, hl.2, hx.2⟩, _, hrow.app hu⟩
theorem okStruct {t : TypeId} {v : Value} {r : Reach} {b : Nat} (h : isStructT P t = true) (hv : Value.okWide P W r b t v) : ∃ cs, v = .agg cs ∧ Lie W cs.toList := by
  unfold isStructT at h
  split at h
  · rename_i fs hu
    simp only [Value.okWide, hu] at hv
    obtain ⟨cs, rfl, _, ts, _, _, hc⟩ := hv
    refine ⟨cs, rfl, fun a len cap hm => ?_⟩
    obtain ⟨i, hi⟩ := List.mem_iff_getElem?.1 hm
    obtain ⟨u, _, hk⟩ := hc i _ (by simpa using hi)
    exact lies hk
  · cases h
theorem okPlain {t : TypeId} {v : Value} {r : Reach} {b : Nat} (h : plainT P t = true) (hv : Value.okWide P W r b t v) : v.cells.toList = [v] ∧ ∀ a len cap, v = Value.slice (some a) len cap → a.block < W.heap.size := by
  have hc : Cell.okWide P W r b t v := by
    unfold plainT at h
    split at h <;> first | (cases h; done) | simp_all [Value.okWide]
  refine ⟨?_, fun a len cap hvs => by rw [hvs] at hc; exact lies hc⟩
  unfold plainT at h
  cases v <;> first | rfl | skip
  all_goals (exfalso; unfold Cell.okWide Cell.ok at hc; split at h <;> simp_all)
include hS in
theorem p_read (w : World) (ρ : Nat → Value) (p : PS) (t : TypeId) (v : Value) (d : DataW H) (q : List MemPlace) {r : Reach} {b : Nat} (n : Nat) (hf : psFit P p t = true) (hv : Value.okWide P w r b t v) (h : DataW.Trod enc P w 0 (fun _ => true) true t v d q) (hsd : S d) :
    ∃ x : p.T, (p.In x ∧ p.Le M x) ∧ ∃ us, ArgsOk w ρ n [v] [(encP false p x n).1] (encP false p x n).2 us := by
  obtain ⟨fuel, h⟩ := h
  cases p with
  | one s =>
    cases s with
    | fl k =>
      simp only [psFit, Bool.and_eq_true, decide_eq_true_eq] at hf
      obtain ⟨a, ha, hin, hle⟩ := k_read1 k (shape_ok hS 9 fuel t _ _ _ hf.2 h hsd)
      refine ⟨a, ⟨hin, hle⟩, [], rfl, fun ρ' _ => ?_, fun _ _ _ i o v h => ?_, ?_, fun o ho => ?_⟩
      · show [den ρ' (flV k a)] = [v]
        cases hk : k.isAgg
        · rw [hk] at hf
          obtain ⟨hc, _⟩ := okPlain hf.1 hv
          have e := ha ρ'
          rw [hc] at e
          unfold flV
          rw [hk]
          have hlen := enc_len k a
          simp only [cond_false]
          match hx : k.enc a, hlen with
          | [], _ => rw [hx] at e; simp [denL] at e
          | [c], _ => rw [hx] at e; simpa [denL] using e.symm
          | c :: c' :: r, _ => rw [hx] at e; simp [denL] at e
        · rw [hk] at hf
          obtain ⟨cs, rfl, _⟩ := okStruct hf.1 hv
          have e := ha ρ'
          unfold flV
          rw [hk]
          simp only [cond_true, den]
          rw [← e]
          rfl
      · have h : ([] : Mem)[i]? = some o := h
        simp at h
      · show (SV.lt (n + 0) (flV k a) && true) = true
        rw [flV_lt]
        rfl
      · have ho : o ∈ ([] : Mem) := ho
        cases ho
    | row k e =>
      simp only [psFit, segsFit, Bool.and_eq_true, decide_eq_true_eq] at hf
      obtain ⟨hc, hl⟩ := okPlain hf.1.1 hv
      have h1 := shape_ok hS 9 fuel t _ _ _ hf.1.2 h hsd
      rw [hc] at h1
      obtain ⟨l, hl, hrow⟩ := row_seg w ρ k e v n h1.1 hl hf.2.1.1 hf.2.1.2
      exact ⟨l, hl, _, hrow⟩
  | agg l =>
    simp only [psFit, Bool.and_eq_true, decide_eq_true_eq] at hf
    obtain ⟨cs, rfl, hL⟩ := okStruct hf.1.1 hv
    obtain ⟨x, hx, us, hu⟩ := segs_read w ρ l cs.toList n hf.2 (shape_ok hS 9 fuel t _ _ _ hf.1.2 h hsd) hL
    refine ⟨x, hx, us, hu.len, fun ρ' hg => ?_, hu.obj, ?_, hu.lt.2⟩
    · have := hu.den ρ' hg
      simp only [encP, denL, den, this]
    · simpa [encP, ltL, SV.lt] using hu.lt.1
  | ref l ty => simp [psFit] at hf
include hS in
theorem all_read (w : World) (ρ : Nat → Value) {r : Reach} {b : Nat} : ∀ (ps : List PS) (ts : List TypeId) (vs : List Value) (ds : List (DataW H)) (q : List MemPlace) (n : Nat), allFit P ps ts = true →
    (∀ (j : Nat) t v, ts[j]? = some t → vs[j]? = some v → Value.okWide P w r b t v) → DataW.TrodAll enc P w 0 (fun _ => true) true ts vs ds q → (∀ d ∈ ds, S d) →
    ∃ x : PsT ps, (PsIn ps x ∧ PsLe M ps x) ∧ ∃ us, ArgsOk w ρ n vs (encA false ps x n).1 (encA false ps x n).2 us
  | [], [], [], _, _, n, _, _, _, _ => ⟨(), ⟨trivial, trivial⟩, [], ArgsOk.nil w ρ n⟩
  | [], [], _ :: _, _, _, _, _, _, h, _ => (by cases h)
  | [], _ :: _, _, _, _, _, hf, _, _, _ => by simp [allFit] at hf
  | _ :: _, [], _, _, _, _, hf, _, _, _ => by simp [allFit] at hf
  | _ :: _, _ :: _, [], _, _, _, _, _, h, _ => by cases h
  | _ :: _, _ :: _, _ :: _, [], _, _, _, _, h, _ => by cases h
  | p :: ps, t :: ts, v :: vs, d :: ds, q, n, hf, hv, h, hsd => by
    simp only [allFit, Bool.and_eq_true] at hf
    obtain ⟨q1, q2, h1, h2, _⟩ := h
    obtain ⟨x, hx, us, hu⟩ := p_read hS w ρ p t v d q1 n hf.1 (hv 0 t v rfl rfl) h1 (hsd d (by simp))
    obtain ⟨y, hy, us', hu'⟩ := all_read w ρ ps ts vs ds q2 (n + (encP false p x n).2.length) hf.2 (fun j t' v' h3 h4 => hv (j + 1) t' v' (by simpa using h3) (by simpa using h4)) h2 (fun d' hd => hsd d' (by simp [hd]))
    exact ⟨(x, y), ⟨⟨hx.1, hy.1⟩, hx.2, hy.2⟩, _, hu.app hu'⟩
include hS in
/-- **A LAW**: its plain form answers true at whatever fits its kinds: so does the program, and writes nothing that was there. -/
theorem law_calls_le (hG : Glob P W) {f : FuncId} {ps : List PS} {t : PsT ps → Option (PsT [PS.one (.fl .bool)])} (ht : TrOk P f (con ps [PS.one (.fl .bool)] t)) (hlaw : ∀ x, PsIn ps x → PsLe M ps x → t x = some ((true : Bool), ()))
    (hdec : ∀ x : PsT ps, decA (encA false ps x 0).2 ps (encA false ps x 0).1 = some x) (hany : ∀ x : PsT ps, (encA false ps x 0).1.all (fun v => !v.isAny) = true)
    {ts : List TypeId} {vs : List Value} {ds : List (DataW H)} {q : List MemPlace} {r : Reach} {b : Nat} (hf : allFit P ps ts = true)
    (hv : ∀ (j : Nat) t v, ts[j]? = some t → vs[j]? = some v → Value.okWide P W r b t v) (h : DataW.TrodAll enc P W 0 (fun _ => true) true ts vs ds q) (hsd : ∀ d ∈ ds, S d) :
    Calls P f vs.toArray W fun e W' => e = .returned (.bool true) ∧ Below W.heap.size W W' := by
  obtain ⟨x, hx, us, hu⟩ := all_read hS W (fun _ => Go.undef) ps ts vs ds q 0 hf hv h hsd
  have hrel := hu.rel
  have hden := hu.den _ (gives_nameOf us)
  have hk : conTr ps [PS.one (.fl .bool)] t (SV × Mem) (encA false ps x 0).1 (encA false ps x 0).2 (fun r m => some (r, m)) = some (SV.b true, (encA false ps x 0).2 ++ []) := by
    simp only [conTr, hdec x, hlaw x hx.1 hx.2, Option.bind_some]
    rfl
  have hc := ht.1 W hG (SV × Mem) (encA false ps x 0).1 (encA false ps x 0).2 (fun r m => some (r, m)) _ hk (hany x)
  have := hc.call (by have := hu.lt.1; simpa using this) _ W hrel
  rw [hden] at this
  refine this.mono ?_
  rintro e w' ⟨ρ', r', m', rfl, hm', _, _, _, hres⟩
  have hres : (some (r', m') : Option (SV × Mem)) = some (SV.b true, (encA false ps x 0).2 ++ []) := hres
  injection hres with hres
  injection hres with h1 h2
  refine ⟨?_, hm'.below⟩
  rw [h1]
  rfl
theorem law_calls (hG : Glob P W) {f : FuncId} {ps : List PS} {t : PsT ps → Option (PsT [PS.one (.fl .bool)])} (ht : TrOk P f (con ps [PS.one (.fl .bool)] t)) (hlaw : ∀ x, PsIn ps x → t x = some ((true : Bool), ()))
    (hdec : ∀ x : PsT ps, decA (encA false ps x 0).2 ps (encA false ps x 0).1 = some x) (hany : ∀ x : PsT ps, (encA false ps x 0).1.all (fun v => !v.isAny) = true)
    {ts : List TypeId} {vs : List Value} {ds : List (DataW H)} {q : List MemPlace} {r : Reach} {b : Nat} (hf : allFit P ps ts = true)
    (hv : ∀ (j : Nat) t v, ts[j]? = some t → vs[j]? = some v → Value.okWide P W r b t v) (h : DataW.TrodAll enc P W 0 (fun _ => true) true ts vs ds q) :
    Calls P f vs.toArray W fun e W' => e = .returned (.bool true) ∧ Below W.heap.size W W' :=
  law_calls_le small_true hG ht (fun x hx _ => hlaw x hx) hdec hany hf hv h (fun _ _ => trivial)
theorem all_back {W' : World} (hl : laidOutB P = true) (hb : Below W.heap.size W W') : ∀ (ts : List TypeId) (vs : List Value) (ds : List (DataW H)) (q : List MemPlace), (ts.all fun t => P.readableRec t && decide (t < P.types.size)) = true →
    DataW.TrodAll enc P W 0 (fun _ => true) true ts vs ds q → DataW.TrodAll enc P W' 0 (fun b => decide (b < W.heap.size)) true ts vs ds q
  | [], [], [], _, _, h => h
  | [], [], _ :: _, _, _, h => h
  | [], _ :: _, _, _, _, h => h
  | _ :: _, [], _, _, _, h => h
  | _ :: _, _ :: _, [], _, _, h => h
  | t :: ts, v :: vs, d :: ds, q, hr, h => by
    simp only [List.all_cons, Bool.and_eq_true, decide_eq_true_eq] at hr
    obtain ⟨q1, q2, h1, h2, h3⟩ := h
    have lt0 : ∀ x ∈ q1, x.block < W.heap.size := by obtain ⟨m, hm⟩ := h1; exact DataW.trod_lt m _ _ _ hm
    exact ⟨q1, q2, Below.trod hl hr.1.1 hr.1.2 h1 hb lt0, all_back hl hb ts vs ds q2 hr.2 h2, h3⟩
/-- A call of a function with a flat result, out of its contract. -/
theorem flat_calls (hG : Glob P W) {f : FuncId} {ps : List PS} {k : K} {t : PsT ps → Option (PsT [PS.one (.fl k)])} (ht : TrOk P f (con ps [PS.one (.fl k)] t)) {x : PsT ps} {y : k.T} (hx : t x = some (y, ()))
    (hdec : decA (encA false ps x 0).2 ps (encA false ps x 0).1 = some x) (hany : (encA false ps x 0).1.all (fun v => !v.isAny) = true) {ρ : Nat → Value} {vals us : List Value}
    (hu : ArgsOk W ρ 0 vals (encA false ps x 0).1 (encA false ps x 0).2 us) :
    Calls P f vals.toArray W fun e W' => (∃ ρ', e = .returned (den ρ' (flV k y))) ∧ Below W.heap.size W W' := by
  have hrel := hu.rel
  have hden := hu.den _ (gives_nameOf us)
  have hk : conTr ps [PS.one (.fl k)] t (SV × Mem) (encA false ps x 0).1 (encA false ps x 0).2 (fun r m => some (r, m)) = some (flV k y, (encA false ps x 0).2 ++ []) := by
    simp only [conTr, hdec, hx, Option.bind_some]
    rfl
  have hc := ht.1 W hG (SV × Mem) (encA false ps x 0).1 (encA false ps x 0).2 (fun r m => some (r, m)) _ hk hany
  have := hc.call (by have := hu.lt.1; simpa using this) _ W hrel
  rw [hden] at this
  refine this.mono ?_
  rintro e w' ⟨ρ', r', m', rfl, hm', _, _, _, hres⟩
  have hres : (some (r', m') : Option (SV × Mem)) = some (flV k y, (encA false ps x 0).2 ++ []) := hres
  injection hres with hres
  injection hres with h1 h2
  exact ⟨⟨ρ', by rw [h1]⟩, hm'.below⟩
/-- A row that is read, as an argument. -/
theorem row_args (w : World) (ρ : Nat → Value) (k : K) (e : TypeId) (v : Value) (n : Nat) (l : List k.T) (hr : RowIs w v l.length k.sz (l.flatMap fun a => denL ρ (k.enc a))) : ArgsOk w ρ n [v] [.row n] [.row (.ty k l) e false] [v] := by
  have hs : ∃ A N c, v = .slice A N c := by obtain ⟨_, A, cap, h, _⟩ := hr; exact ⟨A, _, cap, h⟩
  obtain ⟨A, N, c, hv⟩ := hs
  refine ⟨rfl, fun ρ' hg => by simp [denL, den, hg.head, hv, sliceVal], fun W' ρ' hg i o u hi hu => ?_, by simp [ltL, SV.lt], fun o ho => by simp at ho; subst ho; rfl⟩
  cases i with
  | zero =>
    simp only [List.getElem?_cons_zero, Option.some.injEq] at hi hu
    subst hi hu
    exact ⟨row_obj e hr, rfl⟩
  | succ i => simp at hi
theorem row_below {w w' : World} {v : Value} {n sz : Nat} {cells : List Value} (h : RowIs w v n sz cells) (hb : Below w.heap.size w w') : RowIs w' v n sz cells := by
  obtain ⟨h1, A, cap, h2, h3, h4, h5, h6⟩ := h
  refine ⟨h1, A, cap, h2, h3, h4, h5, fun a ha => ?_⟩
  obtain ⟨g1, g2⟩ := h6 a ha
  exact ⟨Nat.lt_of_lt_of_le g1 hb.size, fun j u hj => (hb.cell (p := a.add j) (by unfold Addr.add; split <;> exact g1)).trans (g2 j u hj)⟩
end

/-- slices.Grow of no slice: a row of the call's own, of no elements. -/
def growCon (k : K) (e : TypeId) (lim : Nat) : Con :=
  { tr := fun _ args m kk => match args with | [.v (.slice none 0 0), .i .i64 n] => req (decide (0 ≤ n) && Nat.ble n.toNat lim) (kk (.row m.length) (m ++ [.row (.ty k []) e true])) | _ => none, q := false, law := true }
theorem grow_ok {P : Program} {f : FuncId} (k : K) (e : TypeId) (lim : Nat)
    (h : ∀ (n : Nat) (w : World), n ≤ lim → Calls P f #[.slice none 0 0, .int .i64 (n : Int)] w fun r w' => ∃ v, r = .returned v ∧ w'.ownsRow w.heap.size e k.sz v 0 [] ∧ Below w.heap.size w w') : TrOk P f (growCon k e lim) := by
  have inv : ∀ {X : Type} {args : List SV} {m : Mem} {kk : SV → Mem → Option X} {x : X}, (growCon k e lim).tr X args m kk = some x → ∃ n : Int, args = [.v (.slice none 0 0), .i .i64 n] ∧ 0 ≤ n ∧ n.toNat ≤ lim ∧ kk (.row m.length) (m ++ [.row (.ty k []) e true]) = some x := by
    intro X args m kk x hk
    simp only [growCon] at hk
    split at hk
    · rename_i n
      obtain ⟨h1, h2⟩ := req_some hk
      simp only [Bool.and_eq_true, decide_eq_true_eq, Nat.ble_eq] at h1
      exact ⟨n, rfl, h1.1, h1.2, h2⟩
    · cases hk
  refine ⟨fun W _ X args m kk x hk _ => ⟨fun _ ρ w hm => ?_⟩, (fun hq => by cases hq), fun _ X args m kk x hk => ?_⟩
  · obtain ⟨n, rfl, h0, hl, hk⟩ := inv hk
    have e1 : ((n.toNat : Nat) : Int) = n := Int.toNat_of_nonneg h0
    have := h n.toNat w hl
    rw [e1] at this
    have ed : (denL ρ [.v (.slice none 0 0), .i .i64 n]).toArray = #[.slice none 0 0, .int .i64 n] := rfl
    rw [ed]
    refine this.mono ?_
    rintro r w' ⟨v, rfl, hown, hb⟩
    have hown' : w'.ownsRow W.heap.size e k.sz v 0 [] := by
      refine ⟨hown.1, hown.2.imp id ?_⟩
      rintro ⟨g, cap, cur, a1, a2, a3⟩
      exact ⟨g, cap, cur, a1, Nat.le_trans hm.below.size a2, a3⟩
    have hvs : ∃ B N c, v = .slice B N c := by
      rcases hown.2 with ⟨h, _⟩ | ⟨g, cp, cur, h, _⟩
      · exact ⟨_, _, _, h⟩
      · exact ⟨_, _, _, h⟩
    obtain ⟨B, N, c, hvs⟩ := hvs
    refine ⟨upd ρ m.length v, .row m.length, m ++ [.row (.ty k []) e true], ?_, ?_, upd_agree _ _ _, by simp, fun _ => by simp [SV.lt], hk⟩
    · simp only [den, upd_same, hvs, sliceVal]
    · refine hm.push hb ⟨(sz_pos k : 0 < k.sz), fun u hu => ?_, ?_⟩ rfl (fun b hb' => ?_)
      · have hu : u ∈ ([] : List Value) := hu
        cases hu
      · rw [if_pos rfl]
        exact hown'
      · rcases hown.2 with ⟨h, _⟩ | ⟨g, cp, cur, h, h2, _⟩
        · rw [h] at hb'; simp [valBlock] at hb'
        · rw [h] at hb'
          simp only [valBlock, Option.some.injEq] at hb'
          omega
  · obtain ⟨n, rfl, h0, hl, hk⟩ := inv hk
    refine ⟨.row m.length, m ++ [.row (.ty k []) e true], ?_, hk, fun _ => ⟨_, rfl⟩⟩
    simp only [growCon]
    rw [show (decide (0 ≤ n) && Nat.ble n.toNat lim) = true by simp [h0, hl]]
    rfl
end Go.Ma
