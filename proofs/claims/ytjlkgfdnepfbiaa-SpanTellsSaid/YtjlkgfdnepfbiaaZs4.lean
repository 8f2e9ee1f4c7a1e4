/-
  For every input SpanTells of the package yardarmlaw returns true, and each of its arguments reads behind the call as it read before. No condition.
-/
import Derived.WalkKit
import Derived.ProofKit
import Derived.Lib.Walk
import Derived.Shelf.SlSortCmp.WholeK
import Derived.Laws.AppendOwn
import Derived.Shelf.SlSortCmp.NoneTotal
import Derived.Test.YtjlkgfdnepfbiaaRows
import Derived.OpenShut
import Derived.ShutString
import Derived.ChangeOld
import Derived.Below
import Derived.Test.YtjlkgfdnepfbiaaZs3
set_option linter.unusedVariables false
set_option linter.unusedSimpArgs false
namespace Go.Proofs.Ytjlkgfdnepfbiaa
open Go Go.Ma Go.RowKit Go.Lib Go.Proofs Go.Sort
def cmpN (x y : Int) : Int := if x < y then -1 else if y < x then 1 else 0
def cmpA (a b : Ad) : Int := if a.v6 != b.v6 then (if b.v6 then -1 else 1) else if a.hi = b.hi then cmpN a.lo b.lo else cmpN a.hi b.hi
def cmpP (p q : Pf) : Int := if cmpA p.ad q.ad ≠ 0 then cmpA p.ad q.ad else p.bits - q.bits
def encPf (x : Pf) : List Value := [.bool x.ad.v6, .int .u64 x.ad.hi, .int .u64 x.ad.lo, .int .i64 x.bits]
set_option maxHeartbeats 1000000 in
theorem cmpN_walk (x y : Int) (W : World) : Calls Try.prog 66 #[.int .u64 x, .int .u64 y] W fun e w' => e = .returned (.int .i64 (cmpN x y)) ∧ w' = W := by
 unfold cmpN
 by_cases h1 : x < y
 ·rw [if_pos h1]
  go_enter Try.func66, Try.ntmps66
  go_wp2
  all_goals (go_ret; exact ⟨rfl, rfl⟩)
 ·rw [if_neg h1]
  by_cases h2 : y < x
  ·rw [if_pos h2]
   go_enter Try.func66, Try.ntmps66
   go_wp2
   all_goals (go_ret; exact ⟨rfl, rfl⟩)
  ·rw [if_neg h2]
   go_enter Try.func66, Try.ntmps66
   go_wp2
   all_goals (go_ret; exact ⟨rfl, rfl⟩)
set_option maxHeartbeats 2000000 in
set_option maxRecDepth 100000 in
theorem ord_walk (a b : Ad) (W : World) : Calls Try.prog 51 #[.agg #[.bool a.v6, .int .u64 a.hi, .int .u64 a.lo], .agg #[.bool b.v6, .int .u64 b.hi, .int .u64 b.lo]] W fun e w' => e = .returned (.int .i64 (cmpA a b)) ∧ ∃ q os', w' = grow (W.drewN q) os' := by
 obtain ⟨av, ah, al⟩ := a
 obtain ⟨bv, bh, bl⟩ := b
 have hx : ∀ x y : Int, ∃ r, cmpN x y = r ∧ Hid (∀ W', Calls Try.prog 66 #[.int .u64 x, .int .u64 y] W' fun e w' => e = .returned (.int .i64 r) ∧ w' = W') := fun x y => ⟨_, rfl, cmpN_walk x y⟩
 cases av <;> cases bv
 ·by_cases h : ah = bh
  ·subst h
   obtain ⟨r, hr, hcon⟩ := hx al bl
   rw [show cmpA ⟨false, ah, al⟩ ⟨false, ah, bl⟩ = r by simp [cmpA, hr]]
   go_enter Try.func51, Try.ntmps51
   go_wp2_with (go_at_call 66; refine (hcon.out _).mono ?_; rintro e w' ⟨rfl, rfl⟩)
   all_goals (go_ret; exact ⟨rfl, 0, _, by rw [alloc_eq_grow, alloc_eq_grow, grow_grow]; rfl⟩)
  ·obtain ⟨r, hr, hcon⟩ := hx ah bh
   rw [show cmpA ⟨false, ah, al⟩ ⟨false, bh, bl⟩ = r by simp [cmpA, hr, h]]
   go_enter Try.func51, Try.ntmps51
   go_wp2_with (go_at_call 66; refine (hcon.out _).mono ?_; rintro e w' ⟨rfl, rfl⟩)
   all_goals (go_ret; exact ⟨rfl, 0, _, by rw [alloc_eq_grow, alloc_eq_grow, grow_grow]; rfl⟩)
 ·go_enter Try.func51, Try.ntmps51
  go_wp2
  all_goals (go_ret; exact ⟨rfl, 0, _, by rw [alloc_eq_grow, alloc_eq_grow, grow_grow]; rfl⟩)
 ·go_enter Try.func51, Try.ntmps51
  go_wp2
  all_goals (go_ret; exact ⟨rfl, 0, _, by rw [alloc_eq_grow, alloc_eq_grow, grow_grow]; rfl⟩)
 ·by_cases h : ah = bh
  ·subst h
   obtain ⟨r, hr, hcon⟩ := hx al bl
   rw [show cmpA ⟨true, ah, al⟩ ⟨true, ah, bl⟩ = r by simp [cmpA, hr]]
   go_enter Try.func51, Try.ntmps51
   go_wp2_with (go_at_call 66; refine (hcon.out _).mono ?_; rintro e w' ⟨rfl, rfl⟩)
   all_goals (go_ret; exact ⟨rfl, 0, _, by rw [alloc_eq_grow, alloc_eq_grow, grow_grow]; rfl⟩)
  ·obtain ⟨r, hr, hcon⟩ := hx ah bh
   rw [show cmpA ⟨true, ah, al⟩ ⟨true, bh, bl⟩ = r by simp [cmpA, hr, h]]
   go_enter Try.func51, Try.ntmps51
   go_wp2_with (go_at_call 66; refine (hcon.out _).mono ?_; rintro e w' ⟨rfl, rfl⟩)
   all_goals (go_ret; exact ⟨rfl, 0, _, by rw [alloc_eq_grow, alloc_eq_grow, grow_grow]; rfl⟩)
theorem cell_grown (w : World) (q : Nat) (os' : Array Go.Obj) {b i : Nat} {v : Value} (h : w.cell? ⟨b, i, none⟩ = some v) : (grow (w.drewN q) os').cell? ⟨b, i, none⟩ = some v := by
 have hb : b < w.heap.size := by
  have h2 := h
  unfold World.cell? at h2
  cases hx : w.heap[b]? with
  | none => rw [hx] at h2; cases h2
  | some o => exact (Array.getElem?_eq_some_iff.1 hx).1
 have e : (grow (w.drewN q) os').heap[b]? = w.heap[b]? := by
  show (w.heap ++ os')[b]? = _
  rw [Array.getElem?_append_left hb]
 unfold World.cell? at h ⊢
 rw [e]
 exact h
set_option maxHeartbeats 2000000 in
set_option maxRecDepth 100000 in
theorem pfCmp_walk (x y : Pf) (hx : 0 ≤ x.bits ∧ x.bits ≤ 128) (hy : 0 ≤ y.bits ∧ y.bits ≤ 128) (W : World) : Calls Try.prog 44 #[.agg (encPf x).toArray, .agg (encPf y).toArray] W fun e w' => e = .returned (.int .i64 (cmpP x y)) ∧ ∃ q os', w' = grow (W.drewN q) os' := by
 obtain ⟨⟨av, ah, al⟩, au⟩ := x
 obtain ⟨⟨bv, bh, bl⟩, bu⟩ := y
 simp only at hx hy
 obtain ⟨r, hr, hcon⟩ : ∃ r, cmpA ⟨av, ah, al⟩ ⟨bv, bh, bl⟩ = r ∧ Hid (∀ W', Calls Try.prog 51 #[.agg #[.bool av, .int .u64 ah, .int .u64 al], .agg #[.bool bv, .int .u64 bh, .int .u64 bl]] W' fun e w' => e = .returned (.int .i64 r) ∧ ∃ q os', w' = grow (W'.drewN q) os') := ⟨_, rfl, fun W' => ord_walk ⟨av, ah, al⟩ ⟨bv, bh, bl⟩ W'⟩
 unfold cmpP
 simp only
 rw [hr]
 show Calls _ _ #[.agg #[.bool av, .int .u64 ah, .int .u64 al, .int .i64 au], .agg #[.bool bv, .int .u64 bh, .int .u64 bl, .int .i64 bu]] _ _
 have c1 : ((W.alloc (.cells #[.bool av, .int .u64 ah, .int .u64 al, .int .i64 au] 27)).alloc (.cells #[.bool bv, .int .u64 bh, .int .u64 bl, .int .i64 bu] 27)).cell? ⟨W.heap.size, 3, none⟩ = some (.int .i64 au) := by
  have e := (Below.heap_alloc (W.alloc (.cells #[.bool av, .int .u64 ah, .int .u64 al, .int .i64 au] 27)) (.cells #[.bool bv, .int .u64 bh, .int .u64 bl, .int .i64 bu] 27) W.heap.size (by simp)).trans (heap_alloc_new W _)
  simp [World.cell?, e]
 have c2 : ((W.alloc (.cells #[.bool av, .int .u64 ah, .int .u64 al, .int .i64 au] 27)).alloc (.cells #[.bool bv, .int .u64 bh, .int .u64 bl, .int .i64 bu] 27)).cell? ⟨W.heap.size + 1, 3, none⟩ = some (.int .i64 bu) := by
  have e := heap_alloc_new (W.alloc (.cells #[.bool av, .int .u64 ah, .int .u64 al, .int .i64 au] 27)) (.cells #[.bool bv, .int .u64 bh, .int .u64 bl, .int .i64 bu] 27)
  have es : (W.alloc (.cells #[.bool av, .int .u64 ah, .int .u64 al, .int .i64 au] 27)).heap.size = W.heap.size + 1 := by simp
  rw [es] at e
  simp only [World.cell?, e]
  rfl
 have HC : Hid (∀ q os', (grow ((((W.alloc (.cells #[.bool av, .int .u64 ah, .int .u64 al, .int .i64 au] 27)).alloc (.cells #[.bool bv, .int .u64 bh, .int .u64 bl, .int .i64 bu] 27))).drewN q) os').cell? ⟨W.heap.size, 3, none⟩ = some (.int .i64 au) ∧ (grow ((((W.alloc (.cells #[.bool av, .int .u64 ah, .int .u64 al, .int .i64 au] 27)).alloc (.cells #[.bool bv, .int .u64 bh, .int .u64 bl, .int .i64 bu] 27))).drewN q) os').cell? ⟨W.heap.size + 1, 3, none⟩ = some (.int .i64 bu)) := fun q os' => ⟨cell_grown _ q os' c1, cell_grown _ q os' c2⟩
 clear c1 c2
 have hw : IntKind.i64.wrap (au - bu) = au - bu := by rw [IntKind.wrap_i64]; omega
 by_cases h0 : r = 0
 ·subst h0
  go_enter Try.func44, Try.ntmps44
  go_wp2_with (go_at_call 51; refine (hcon.out _).mono ?_; rintro e w' ⟨rfl, q, os', rfl⟩; obtain ⟨g1, g2⟩ := HC.out q os')
  all_goals (go_ret; refine ⟨by simp [hw], q, ?_⟩)
  rw [alloc_eq_grow, alloc_eq_grow, grow_grow]
  exact ⟨_, grow_grow (W.drewN q) _ os'⟩
 ·go_enter Try.func44, Try.ntmps44
  go_wp2_with (go_at_call 51; refine (hcon.out _).mono ?_; rintro e w' ⟨rfl, q, os', rfl⟩; obtain ⟨g1, g2⟩ := HC.out q os')
  all_goals (go_ret; refine ⟨by simp [h0], q, ?_⟩)
  rw [alloc_eq_grow, alloc_eq_grow, grow_grow]
  exact ⟨_, grow_grow (W.drewN q) _ os'⟩
end Go.Proofs.Ytjlkgfdnepfbiaa
namespace Go.Ma
open Go Go.Shelf Go.RowKit Go.Lib Go.Proofs Go.Sort
theorem flatMap_get {α : Type} (enc : α → List Value) (k : Nat) (hk : ∀ x, (enc x).length = k) : ∀ (l : List α) (j : Nat), j < l.length * k → (l.flatMap enc)[j]? = (l[j / k]?).bind fun a => (enc a)[j % k]?
 | [], j, h => by simp at h
 | x :: r, j, h => by
  have k0 : 0 < k := by
   rcases Nat.eq_zero_or_pos k with h0 | h0
   ·subst h0; simp at h
   ·exact h0
  rw [List.flatMap_cons]
  by_cases hj : j < k
  ·rw [List.getElem?_append_left (by rw [hk]; exact hj), Nat.div_eq_of_lt hj, Nat.mod_eq_of_lt hj]
   rfl
  ·rw [List.getElem?_append_right (by rw [hk]; omega), hk, flatMap_get enc k hk r (j - k) (by simp [Nat.add_mul] at h; omega)]
   have e1 : j / k = (j - k) / k + 1 := by
    have := Nat.add_div_right (j - k) k0
    rwa [Nat.sub_add_cancel (by omega)] at this
   have e2 : (j - k) % k = j % k := by
    have := Nat.add_mod_right (j - k) k
    rwa [Nat.sub_add_cancel (by omega), eq_comm] at this
   rw [e1, e2, List.getElem?_cons_succ]
theorem flatK_eq {α : Type} [Inhabited α] (enc : α → List Value) (k : Nat) (hk : ∀ x, (enc x).length = k) (d : Array α) : (flatK enc k d).toList = d.toList.flatMap enc := by
 have hlen' : ∀ l : List α, (l.flatMap enc).length = l.length * k := by
  intro l
  induction l with
  | nil => simp
  | cons x r ih => rw [List.flatMap_cons, List.length_append, hk, ih, List.length_cons, Nat.add_mul]; omega
 have hlen : (d.toList.flatMap enc).length = d.size * k := by rw [hlen']; simp
 refine List.ext_getElem? fun j => ?_
 by_cases hj : j < d.size * k
 ·have k0 : 0 < k := by
   rcases Nat.eq_zero_or_pos k with h0 | h0
   ·subst h0; simp at hj
   ·exact h0
  rw [flatMap_get enc k hk d.toList j (by simpa using hj)]
  have hd : j / k < d.size := Nat.div_lt_of_lt_mul (by rw [Nat.mul_comm]; exact hj)
  have hm : j % k < (enc (d[j / k]'hd)).length := by rw [hk]; exact Nat.mod_lt _ k0
  have h1 : (flatK enc k d).toList[j]? = some (flatK enc k d)[j]! := by
   rw [Array.getElem?_toList, Array.getElem?_eq_getElem (by simpa using hj), getElem!_pos _ j (by simpa using hj)]
  rw [h1, get_flatK _ _ _ _ hj, getElem!_pos d _ hd, Array.getElem?_toList, Array.getElem?_eq_getElem hd, Option.bind_some, List.getElem?_eq_getElem hm, getElem!_pos (enc (d[j / k]'hd)) (j % k) hm]
 ·rw [List.getElem?_eq_none (by simpa using hj), List.getElem?_eq_none (by omega)]
theorem putCells_take (F : Array Value) (c : Array Value) (h : F.size ≤ c.size) : (putCells id 0 F c).toList.take F.size = F.toList := by
 refine List.ext_getElem? fun j => ?_
 rw [List.getElem?_take]
 by_cases hj : j < F.size
 ·rw [if_pos hj]
  unfold putCells
  rw [Array.getElem?_toList, Array.getElem?_mapIdx, Array.getElem?_eq_getElem (show j < c.size by omega), Option.map_some, if_pos (by omega), Array.getElem?_toList, Array.getElem?_eq_getElem hj]
  simp [getElem!_pos F j hj]
 ·rw [if_neg hj, List.getElem?_eq_none (by simpa using hj)]
theorem sort_gen {P : Program} {ρ : Ren} {α : Type} [Inhabited α] (L : SlLaysF0.n6 P ρ) (k : Nat) (aE : ∀ w, (isAgg (ρ.t 24)).run P w = .ok true w) (zE : ∀ w, (Go.sizeOf (ρ.t 24)).run P w = .ok k w) (enc : α → List Value) (hk : ∀ x, (enc x).length = k) (h1 : ∀ x, ∀ v ∈ enc x, v.oneCell' = true) (cf : α → α → Int) (hO : SWO (ltOf cf)) (g : Nat) (cb : Array Value)
  (eg : ∀ args w, (callFunc g args).run P w = .ok (.enter g args) w)
  (hcmp : ∀ (w : World) (x y : α), Calls P g (#[.agg (enc x).toArray, .agg (enc y).toArray] ++ cb) w fun e w' => e = .returned (.int .i64 (cf x y)) ∧ ∃ q os', w' = grow (w.drewN q) os')
  (base : Nat) (e : TypeId) (w : World) (v : Value) (l : List α) (hown : w.ownsRow base e k v l.length (l.flatMap enc)) (hl : l ≠ []) (hsz : l.length < 4611686018427387904) :
  Calls P (ρ.f 6) #[v, .func (.func g) #[] cb] w fun r w' => r = .returned (.tuple #[]) ∧ ∃ l' : List α, l'.Perm l ∧ l'.Pairwise (fun a b => ltOf cf b a = false) ∧ w'.ownsRow base e k v l'.length (l'.flatMap enc) ∧ w.grownBy w' v.ownBlock := by
 obtain ⟨hlen, ⟨_, h0⟩ | ⟨b, cap, cur, rfl, hb, hg, hnc, hcm, hcs, htake⟩⟩ := hown
 ·exact absurd (List.eq_nil_of_length_eq_zero h0) hl
 have hblk : b < w.heap.size := (Array.getElem?_eq_some_iff.1 hg).1
 have hkc : l.length * k ≤ cur.size := by rw [hcs]; exact Nat.mul_le_mul_right k hnc
 have hflat : (flatK enc k l.toArray).toList = l.flatMap enc := by rw [flatK_eq enc k hk]
 have hH : HoldsK enc k w b 0 l.toArray := by
  intro j hj
  have hj : j < l.length * k := by simpa using hj
  refine ⟨?_, ?_⟩
  ·have hc : w.cell? ⟨b, 0 + j, none⟩ = cur[j]? := by simp [World.cell?, hg]
   rw [hc]
   have e1 : cur[j]? = (flatK enc k l.toArray)[j]? := by
    rw [← Array.getElem?_toList, ← Array.getElem?_toList, hflat, ← htake, List.getElem?_take, if_pos hj]
   rw [e1, Array.getElem?_eq_getElem (by simpa using hj), getElem!_pos _ j (by simpa using hj)]
   rfl
  ·simp [World.frozen?, hg]
 refine (AnyQ.slices_SortFunc L k aE zE enc hk h1 cf hO g cb b 0 cap l.toArray w eg (fun m os dk _ x y => hcmp _ x y) hH hblk (by simpa using hsz)).mono ?_
 rintro r w' ⟨rfl, d', n, os, hp, hs, rfl⟩
 obtain ⟨hsize, _, hperm⟩ := hp
 have hsize : d'.size = l.length := by simpa using hsize
 have hperm : d'.toList.Perm l := by
  have e1 : d'.extract 0 l.length = d' := by rw [← hsize]; simp
  have e2 : l.toArray.extract 0 l.length = l.toArray := by simp
  have : l.toArray.size = l.length := by simp
  rw [this, e1, e2] at hperm
  simpa using hperm
 have hheap : (sortWorldK enc k w b 0 n d' os).heap[b]? = some (.cells (putCells id 0 (flatK enc k d') cur) e (0, 0)) := by
  simp only [sortWorldK, grow, putRowK, putRow, mapBlock, Sort.ahead]
  rw [Array.getElem?_append_left (by simpa using hblk), Array.getElem?_modify, if_pos rfl, hg]
  rfl
 refine ⟨rfl, d'.toList, hperm, ?_, ⟨?_, .inr ⟨b, cap, _, ?_, hb, hheap, ?_, hcm, ?_, ?_⟩⟩, ⟨rfl, rfl, rfl, ?_, ?_⟩⟩
 ·rw [List.pairwise_iff_getElem]
  intro i j hi hj hij
  have hj' : j < d'.size := by simpa using hj
  have := hs i j (Nat.zero_le _) hij (by simp; omega)
  rw [getElem!_pos d' j hj', getElem!_pos d' i (by omega)] at this
  simpa using this
 ·rw [← flatK_eq enc k hk]; simp
 ·simp [hsize]
 ·simp [hsize]; omega
 ·simp [putCells, hcs]
 ·have hf : (flatK enc k d').size = d'.toList.length * k := by simp
  rw [← flatK_eq enc k hk, ← hf, putCells_take]
  simp only [size_flatK, hsize]
  exact hkc
 ·simp [sortWorldK, grow, putRowK, putRow, mapBlock, Sort.ahead]
 ·intro q hq hne
  have hne : b ≠ q := fun e => hne (by simp [Value.ownBlock, e])
  simp only [sortWorldK, grow, putRowK, putRow, mapBlock, Sort.ahead]
  rw [Array.getElem?_append_left (by simpa using hq), Array.getElem?_modify, if_neg hne]
end Go.Ma
namespace Go.Proofs.Ytjlkgfdnepfbiaa
open Go Go.Ma Go.RowKit Go.Lib Go.Proofs Go.Sort
theorem cmpA_lt (a b : Ad) : decide (cmpA a b < 0) = adLt a b := by
 unfold cmpA cmpN adLt
 obtain ⟨av, ah, al⟩ := a
 obtain ⟨bv, bh, bl⟩ := b
 cases av <;> cases bv <;> simp
 all_goals
  by_cases h : ah = bh
  ·subst h
   by_cases h1 : al < bl
   ·simp [h1]
   ·by_cases h2 : bl < al <;> simp [h1, h2]
  ·by_cases h1 : ah < bh
   ·simp [h, h1]
   ·by_cases h2 : bh < ah <;> simp [h, h1, h2]
abbrev PB := {p : Pf // 0 ≤ p.bits ∧ p.bits ≤ 128}
instance : Inhabited PB := ⟨⟨⟨⟨false, 0, 0⟩, 0⟩, by decide⟩⟩
theorem cmpA_zero (a b : Ad) : cmpA a b = 0 ↔ a = b := by
 constructor
 ·intro h
  refine adLt_tri a b ?_ ?_
  ·rw [← cmpA_lt, h]; rfl
  ·rw [← cmpA_lt]
   unfold cmpA cmpN at h ⊢
   obtain ⟨av, ah, al⟩ := a
   obtain ⟨bv, bh, bl⟩ := b
   simp only at h ⊢
   cases av <;> cases bv <;> simp at h ⊢
   all_goals
    by_cases h1 : ah = bh
    ·subst h1; simp at h ⊢; split at h <;> split <;> omega
    ·simp [h1, Ne.symm h1] at h ⊢; split at h <;> split <;> omega
 ·intro h
  subst h
  unfold cmpA cmpN
  simp
theorem pb_of : ∀ l : List Pf, (l.all fun p => decide (0 ≤ p.bits) && decide (p.bits ≤ 128)) = true → ∃ m : List PB, m.map Subtype.val = l
 | [], _ => ⟨[], rfl⟩
 | p :: r, h => by
  rw [List.all_cons, Bool.and_eq_true, Bool.and_eq_true, decide_eq_true_iff, decide_eq_true_iff] at h
  obtain ⟨m, hm⟩ := pb_of r h.2
  exact ⟨⟨p, h.1⟩ :: m, by rw [List.map_cons, hm]⟩
theorem ltOf_pb (x y : PB) : ltOf (fun x y : PB => cmpP x.1 y.1) x y = pfLt x.1 y.1 := by
 show decide (cmpP x.1 y.1 < 0) = _
 unfold cmpP pfLt
 by_cases h : cmpA x.1.ad y.1.ad = 0
 ·have e := (cmpA_zero _ _).1 h
  rw [if_neg (fun hh => hh h), e, adLt_irrefl, Bool.false_or, decide_eq_true rfl, Bool.true_and, decide_eq_decide]
  omega
 ·rw [if_pos h, cmpA_lt, decide_eq_false (fun e => h ((cmpA_zero _ _).2 e)), Bool.false_and, Bool.or_false]
theorem swo_pb : SWO (ltOf fun x y : PB => cmpP x.1 y.1) where
 irrefl x := by rw [ltOf_pb]; exact pfLt_irrefl _
 trans x y z h1 h2 := by rw [ltOf_pb] at *; exact pfLt_trans h1 h2
 ntrans x y z h1 h2 := by rw [ltOf_pb] at *; exact pfLt_ntrans h1 h2
theorem encPf_K (ρ : Nat → Value) (x : Pf) : denL ρ (K.enc .pfx x) = encPf x := rfl
noncomputable def slices_SortFunc___api_Prefix_api_Prefix__con : Con := sortCon .pfx sortOkP sortP 27 44
theorem slices_SortFunc___api_Prefix_api_Prefix__ok : TrOk Try.prog 43 slices_SortFunc___api_Prefix_api_Prefix__con := by
 refine sort_ok .pfx sortOkP sortP _ _ (fun W hG base w v l ρ hb hown hbase hok => ?_)
 simp only [sortOkP, Bool.and_eq_true, List.all_eq_true, decide_eq_true_eq] at hok
 obtain ⟨h2, h3⟩ := hok
 have hsz : l.length < 4611686018427387904 := by
  have := Nat.le_of_ble_eq_true (show Nat.ble ((l.length : Int).toNat + (0 : Int).toNat) 274877906944 = true from h2)
  have e : (0 : Int).toNat = 0 := rfl
  omega
 have e0 : (fun a : Pf => denL ρ (K.enc .pfx a)) = encPf := funext fun x => encPf_K ρ x
 have hown' : w.ownsRow base 27 4 v l.length (l.flatMap encPf) := by rw [← e0]; exact hown
 by_cases h1 : l = []
 ·subst h1
  obtain ⟨p, cap, rfl⟩ : ∃ p cap, v = .slice p 0 cap := by
   obtain ⟨_, ⟨e, _⟩ | ⟨b, cap, cur, e, _⟩⟩ := hown'
   ·exact ⟨_, _, e⟩
   ·exact ⟨_, _, e⟩
  refine (AnyF.slices_SortFunc_none Try.sortLs p cap _ w).mono ?_
  rintro r w' ⟨rfl, rfl⟩
  exact ⟨rfl, hown, World.grownBy.refl _ _⟩
 obtain ⟨m, hm⟩ := pb_of l h3
 subst hm
 have hfm : ∀ k : List PB, (k.map Subtype.val).flatMap encPf = k.flatMap fun x : PB => encPf x.1 := fun k => by rw [List.flatMap_map]
 have hlm : (m.map Subtype.val).length = m.length := List.length_map _
 have hown2 : w.ownsRow base 27 4 v m.length (m.flatMap fun x : PB => encPf x.1) := by rw [← hlm, ← hfm]; exact hown'
 have hg := sort_gen Try.sortLs 4 (fun w => Try.isAgg27 w) (fun w => Try.sizeOf27 w) (fun x : PB => encPf x.1) (fun _ => rfl) (fun x v hv => by
   simp only [encPf, List.mem_cons, List.not_mem_nil, or_false] at hv
   rcases hv with rfl | rfl | rfl | rfl <;> rfl) (fun x y : PB => cmpP x.1 y.1) swo_pb 44 #[] (enters_of Try.func44 (by kernel_rfl) rfl)
  (fun w x y => pfCmp_walk x.1 y.1 x.2 y.2 w) base 27 w v m hown2 (fun e => h1 (by rw [e]; rfl)) (by rw [← hlm]; exact hsz)
 refine hg.mono ?_
 rintro r w' ⟨rfl, l', hp, hpw, hown3, hgb⟩
 have hl' : l'.map Subtype.val = sortP (m.map Subtype.val) := sortP_uniq (hp.map _) (List.pairwise_map.2 (hpw.imp fun {a b} h => by
  rw [ltOf_pb] at h
  exact h))
 refine ⟨rfl, ?_, hgb⟩
 show w'.ownsRow base 27 4 v (sortP (m.map Subtype.val)).length ((sortP (m.map Subtype.val)).flatMap fun a : Pf => denL ρ (K.enc .pfx a))
 have hlm3 : (l'.map Subtype.val).length = l'.length := List.length_map _
 rw [e0, ← hl', hfm]
 rw [← hlm3] at hown3
 exact hown3
end Go.Proofs.Ytjlkgfdnepfbiaa
namespace Go.Proofs.Ytjlkgfdnepfbiaa
open Go Go.Ma
def zq13 : LoopS := { n := 58, base := 5, head := { keep := [0, 3, 4], vals := [.one (.cst (.ptr 1 0)), .one (.cst (.ptr 5 0)), .one (.fl .int)], objs := [.row .pfx 27 false, .blk [.cst (.row 3)] 68 true, .row .pfx 27 true, .row .pfx 27 true, .blk [.fl .pfx] 27 true, .blk [.fl .pfx] 27 true] }, exits := [⟨some 0, { keep := [0, 3, 4], vals := [.one (.cst (.ptr 1 0)), .one (.cst (.ptr 5 0)), .one (.fl .int)], objs := [.row .pfx 27 false, .blk [.cst (.row 3)] 68 true, .row .pfx 27 true, .row .pfx 27 true, .blk [.fl .pfx] 27 true, .blk [.fl .pfx] 27 true] }⟩] }
noncomputable def span_Short___span_stack__put_env : Env := mkEnv ty fnB [(52, prefix_Over_con), (53, prefix_Joined_con)] [(3, (loopTr zq13 (loopN zq12 FUEL)))]
theorem span_Short___span_stack__put_envOk : EnvOk Try.prog span_Short___span_stack__put_env := envOk tyOk fn_ok (callsCons prefix_Over_ok (callsCons prefix_Joined_ok callsNil)) _
theorem span_Short___span_stack__put_L3_ok : LOk Try.prog (nthLoop (codeOf Try.f45) 0) (loopTr zq13 (loopN zq12 FUEL)) := by
 have h : loopsOf (nthLoop (codeOf Try.f45) 0) = [] := by kernel_rfl
 refine loop_ok span_Short___span_stack__put_envOk (loopsOk h lsNil) zq13 zq12 FUEL (fun rec x => ?_)
 kernel_rfl
theorem span_Short___span_stack__put_inl : TrOk Try.prog 45 (inlCon span_Short___span_stack__put_env Try.f45) := by
 have h : loopsOf (codeOf Try.f45) = [(nthLoop (codeOf Try.f45) 0)] := by kernel_rfl
 exact inl_ok span_Short___span_stack__put_envOk Try.func45 (bodyOk h (lsCons (one_loop (t := (loopTr zq13 (loopN zq12 FUEL))) (by kernel_rfl) span_Short___span_stack__put_L3_ok) lsNil))
def span_Short_L5_S : LoopS := { n := 27, base := 1, head := { keep := [3, 13, 14, 15], vals := [.one (.cst (.ptr 1 0)), .one (.cst (.row 2)), .one (.fl .int), .one (.fl .int)], objs := [.row .pfx 27 false, .blk [.cst (.row 3)] 68 true, .row .pfx 27 true, .row .pfx 27 true] }, exits := [⟨some 0, { keep := [3], vals := [.one (.cst (.ptr 1 0))], objs := [.row .pfx 27 false, .blk [.cst (.row 2)] 68 true, .row .pfx 27 true] }⟩] }
noncomputable def span_Short_env : Env := mkEnv ty fnB [(42, slices_Clone___api_Prefix_api_Prefix__con), (43, slices_SortFunc___api_Prefix_api_Prefix__con), (45, (inlCon span_Short___span_stack__put_env Try.f45))] [(5, (loopTr span_Short_L5_S (loopN span_Short_L5 FUEL)))]
theorem span_Short_envOk : EnvOk Try.prog span_Short_env := envOk tyOk fn_ok (callsCons slices_Clone___api_Prefix_api_Prefix__ok (callsCons slices_SortFunc___api_Prefix_api_Prefix__ok (callsCons span_Short___span_stack__put_inl callsNil))) _
theorem span_Short_L5_ok : LOk Try.prog (nthLoop (codeOf Try.f21) 0) (loopTr span_Short_L5_S (loopN span_Short_L5 FUEL)) := by
 have h : loopsOf (nthLoop (codeOf Try.f21) 0) = [] := by kernel_rfl
 refine loop_ok span_Short_envOk (loopsOk h lsNil) span_Short_L5_S span_Short_L5 FUEL (fun rec x => ?_)
 kernel_rfl
noncomputable def span_Short_con : Con := con [.one (.row .pfx 27)] [.one (.row .pfx 27)] (fun x => span_Short_t x.1)
theorem span_Short_ok : TrOk Try.prog 21 span_Short_con := by
 have h : loopsOf (codeOf Try.f21) = [(nthLoop (codeOf Try.f21) 0)] := by kernel_rfl
 refine con_ok span_Short_envOk Try.func21 (bodyOk h (lsCons (one_loop (t := (loopTr span_Short_L5_S (loopN span_Short_L5 FUEL))) (by kernel_rfl) span_Short_L5_ok) lsNil)) _ _ _ (fun x => ?_)
 kernel_rfl
noncomputable def span_Norm_env : Env := mkEnv ty fnB [(20, span_Right_con), (21, span_Short_con)] []
theorem span_Norm_envOk : EnvOk Try.prog span_Norm_env := envOk tyOk fn_ok (callsCons span_Right_ok (callsCons span_Short_ok callsNil)) _
noncomputable def span_Norm_con : Con := con [.one (.row .pfx 27)] [.one (.row .pfx 27), .one (.fl .int)] (fun x => span_Norm_t x.1)
theorem span_Norm_ok : TrOk Try.prog 5 span_Norm_con := by
 have h : loopsOf (codeOf Try.f5) = [] := by kernel_rfl
 refine con_ok span_Norm_envOk Try.func5 (bodyOk h lsNil) _ _ _ (fun x => ?_)
 kernel_rfl
def span_Less_L3_S : LoopS := { n := 22, base := 1, head := { keep := [3, 5, 8, 9, 10], vals := [.one (.cst (.ptr 1 0)), .one (.cst (.row 2)), .one (.cst (.row 0)), .one (.fl .int), .one (.fl .int)], objs := [.row .pfx 27 false, .blk [.fl .pfx] 27 true, .row .pfx 27 true] }, exits := [⟨some 0, { keep := [5], vals := [.one (.cst (.row 1))], objs := [.row .pfx 27 false, .row .pfx 27 true] }⟩] }
noncomputable def span_Less_env : Env := mkEnv ty fnB [(47, span_rest_con), (21, span_Short_con)] [(3, (loopTr span_Less_L3_S (loopN span_Less_L3 FUEL)))]
theorem span_Less_envOk : EnvOk Try.prog span_Less_env := envOk tyOk fn_ok (callsCons span_rest_ok (callsCons span_Short_ok callsNil)) _
theorem span_Less_L3_ok : LOk Try.prog (nthLoop (codeOf Try.f27) 0) (loopTr span_Less_L3_S (loopN span_Less_L3 FUEL)) := by
 have h : loopsOf (nthLoop (codeOf Try.f27) 0) = [] := by kernel_rfl
 refine loop_ok span_Less_envOk (loopsOk h lsNil) span_Less_L3_S span_Less_L3 FUEL (fun rec x => ?_)
 kernel_rfl
noncomputable def span_Less_con : Con := con [.one (.row .pfx 27), .one (.fl .pfx)] [.one (.row .pfx 27)] (fun x => span_Less_t x.1 x.2.1)
theorem span_Less_ok : TrOk Try.prog 27 span_Less_con := by
 have h : loopsOf (codeOf Try.f27) = [(nthLoop (codeOf Try.f27) 0)] := by kernel_rfl
 refine con_ok span_Less_envOk Try.func27 (bodyOk h (lsCons (one_loop (t := (loopTr span_Less_L3_S (loopN span_Less_L3 FUEL))) (by kernel_rfl) span_Less_L3_ok) lsNil)) _ _ _ (fun x => ?_)
 kernel_rfl
noncomputable def span_Minus_env : Env := mkEnv ty fnB [(20, span_Right_con), (26, prefix_Check_con), (27, span_Less_con)] []
theorem span_Minus_envOk : EnvOk Try.prog span_Minus_env := envOk tyOk fn_ok (callsCons span_Right_ok (callsCons prefix_Check_ok (callsCons span_Less_ok callsNil))) _
noncomputable def span_Minus_con : Con := con [.one (.row .pfx 27), .one (.fl .pfx)] [.one (.row .pfx 27), .one (.fl .int)] (fun x => span_Minus_t x.1 x.2.1)
theorem span_Minus_ok : TrOk Try.prog 7 span_Minus_con := by
 have h : loopsOf (codeOf Try.f7) = [] := by kernel_rfl
 refine con_ok span_Minus_envOk Try.func7 (bodyOk h lsNil) _ _ _ (fun x => ?_)
 kernel_rfl
def R_normWithin_L3_S : LoopS := { n := 110, base := 2, head := { keep := [1, 2, 3, 7, 8, 9, 10], vals := [.one (.cst (.row 0)), .one (.cst (.row 1)), .one (.cst (.ptr 2 0)), .one (.fl .bool), .one (.fl .bool), .one (.fl .bool), .one (.fl .int)], objs := [.row .pfx 27 false, .row .pfx 27 false, .blk [.fl .pfx] 27 true] }, exits := [⟨some 0, { keep := [1, 2, 3, 7, 8, 9], vals := [.one (.cst (.row 0)), .one (.cst (.row 1)), .one (.cst (.ptr 2 0)), .one (.fl .bool), .one (.fl .bool), .one (.fl .bool)], objs := [.row .pfx 27 false, .row .pfx 27 false, .blk [.fl .pfx] 27 true] }⟩] }
def R_normWithin_L8_S : LoopS := { n := 110, base := 2, head := { keep := [1, 2, 3, 7, 8, 9, 11], vals := [.one (.cst (.row 0)), .one (.cst (.row 1)), .one (.cst (.ptr 2 0)), .one (.fl .bool), .one (.fl .bool), .one (.fl .bool), .one (.fl .int)], objs := [.row .pfx 27 false, .row .pfx 27 false, .blk [.fl .pfx] 27 true] }, exits := [⟨none, { keep := [6], vals := [.one (.cst (.row 2))], objs := [.row .pfx 27 false, .row .pfx 27 false, .row .pfx 27 true] }⟩, ⟨some 2, { keep := [1, 2, 3, 7, 8, 9], vals := [.one (.cst (.row 0)), .one (.cst (.row 1)), .one (.cst (.ptr 2 0)), .one (.fl .bool), .one (.fl .bool), .one (.fl .bool)], objs := [.row .pfx 27 false, .row .pfx 27 false, .blk [.fl .pfx] 27 true] }⟩] }
noncomputable def R_normWithin_env (R_normWithin_rec_con : Con) : Env := mkEnv ty fnB [(39, R_HasPrefix_con), (40, R_DoMeet_con), (41, R_HalvesOf_con), (30, R_normWithin_rec_con)] [(3, (loopTr R_normWithin_L3_S (loopN R_normWithin_L3 FUEL))), (8, (loopTr R_normWithin_L8_S (loopN R_normWithin_L8 FUEL)))]
theorem R_normWithin_envOk {R_normWithin_rec_con : Con} (R_normWithin_rec_ok : TrOk Try.prog 30 R_normWithin_rec_con) : EnvOk Try.prog (R_normWithin_env R_normWithin_rec_con) := envOk tyOk fn_ok (callsCons R_HasPrefix_ok (callsCons R_DoMeet_ok (callsCons R_HalvesOf_ok (callsCons R_normWithin_rec_ok callsNil)))) _
theorem R_normWithin_L8_ok : LOk Try.prog (nthLoop (codeOf Try.f30) 1) (loopTr R_normWithin_L8_S (loopN R_normWithin_L8 FUEL)) := by
 have h : loopsOf (nthLoop (codeOf Try.f30) 1) = [] := by kernel_rfl
 refine loop_ok (R_normWithin_envOk (con_none Try.prog 30 [.one (.fl .pfx), .one (.row .pfx 27), .one (.row .pfx 27)] [.one (.row .pfx 27)])) (loopsOk h lsNil) R_normWithin_L8_S R_normWithin_L8 FUEL (fun rec x => ?_)
 kernel_rfl
theorem R_normWithin_L3_ok : LOk Try.prog (nthLoop (codeOf Try.f30) 0) (loopTr R_normWithin_L3_S (loopN R_normWithin_L3 FUEL)) := by
 have h : loopsOf (nthLoop (codeOf Try.f30) 0) = [] := by kernel_rfl
 refine loop_ok (R_normWithin_envOk (con_none Try.prog 30 [.one (.fl .pfx), .one (.row .pfx 27), .one (.row .pfx 27)] [.one (.row .pfx 27)])) (loopsOk h lsNil) R_normWithin_L3_S R_normWithin_L3 FUEL (fun rec x => ?_)
 kernel_rfl
theorem R_normWithin_step_ok (R_normWithin_rec_t : Pf → List Pf → List Pf → Option ((List Pf) × Unit)) (R_normWithin_rec_ok : TrOk Try.prog 30 (con [.one (.fl .pfx), .one (.row .pfx 27), .one (.row .pfx 27)] [.one (.row .pfx 27)] (fun x => R_normWithin_rec_t x.1 x.2.1 x.2.2.1))) : TrOk Try.prog 30 (con [.one (.fl .pfx), .one (.row .pfx 27), .one (.row .pfx 27)] [.one (.row .pfx 27)] (fun x => R_normWithin_step R_normWithin_rec_t x.1 x.2.1 x.2.2.1)) := by
 have h : loopsOf (codeOf Try.f30) = [(nthLoop (codeOf Try.f30) 0), (nthLoop (codeOf Try.f30) 1)] := by kernel_rfl
 refine con_ok (R_normWithin_envOk R_normWithin_rec_ok) Try.func30 (bodyOk h (lsCons (one_loop (t := (loopTr R_normWithin_L3_S (loopN R_normWithin_L3 FUEL))) (by kernel_rfl) R_normWithin_L3_ok) (lsCons (one_loop (t := (loopTr R_normWithin_L8_S (loopN R_normWithin_L8 FUEL))) (by kernel_rfl) R_normWithin_L8_ok) lsNil))) _ _ _ (fun x => ?_)
 kernel_rfl
theorem R_normWithin_fuel_ok : ∀ n, TrOk Try.prog 30 (con [.one (.fl .pfx), .one (.row .pfx 27), .one (.row .pfx 27)] [.one (.row .pfx 27)] (fun x => R_normWithin_fuel n x.1 x.2.1 x.2.2.1))
 | 0 => con_none Try.prog 30 [.one (.fl .pfx), .one (.row .pfx 27), .one (.row .pfx 27)] [.one (.row .pfx 27)]
 | n + 1 => R_normWithin_step_ok _ (R_normWithin_fuel_ok n)
noncomputable def R_normWithin_con : Con := con [.one (.fl .pfx), .one (.row .pfx 27), .one (.row .pfx 27)] [.one (.row .pfx 27)] (fun x => R_normWithin_t x.1 x.2.1 x.2.2.1)
theorem R_normWithin_ok : TrOk Try.prog 30 R_normWithin_con := R_normWithin_fuel_ok RECN
noncomputable def R_NormOf_env : Env := mkEnv ty fnB [(30, R_normWithin_con)] []
theorem R_NormOf_envOk : EnvOk Try.prog R_NormOf_env := envOk tyOk fn_ok (callsCons R_normWithin_ok callsNil) _
noncomputable def R_NormOf_con : Con := con [.one (.row .pfx 27), .one (.row .pfx 27)] [.one (.row .pfx 27)] (fun x => R_NormOf_t x.1 x.2.1)
theorem R_NormOf_ok : TrOk Try.prog 11 R_NormOf_con := by
 have h : loopsOf (codeOf Try.f11) = [] := by kernel_rfl
 refine con_ok R_NormOf_envOk Try.func11 (bodyOk h lsNil) _ _ _ (fun x => ?_)
 kernel_rfl
noncomputable def law_spanBegun_env : Env := mkEnv ty fnB [(31, law_net_con), (5, span_Norm_con), (32, law_v4_con), (6, span_Has_con), (7, span_Minus_con), (33, R_SamePrefixes_con)] []
theorem law_spanBegun_envOk : EnvOk Try.prog law_spanBegun_env := envOk tyOk fn_ok (callsCons law_net_ok (callsCons span_Norm_ok (callsCons law_v4_ok (callsCons span_Has_ok (callsCons span_Minus_ok (callsCons R_SamePrefixes_ok callsNil)))))) _
noncomputable def law_spanBegun_con : Con := con [] [.one (.fl .bool)] (fun x => law_spanBegun_t)
theorem law_spanBegun_ok : TrOk Try.prog 13 law_spanBegun_con := by
 have h : loopsOf (codeOf Try.f13) = [] := by kernel_rfl
 refine con_ok law_spanBegun_envOk Try.func13 (bodyOk h lsNil) _ _ _ (fun x => ?_)
 kernel_rfl
def law_SpanTells_L17_S : LoopS := { n := 103, base := 1, head := { keep := [0, 4, 7, 8, 9, 10, 11, 12, 13, 14, 15, 16, 17, 18, 19], vals := [.one (.cst (.row 0)), .one (.cst (.ptr 1 0)), .one (.cst (.row 2)), .one (.fl .int), .one (.fl .bool), .one (.fl .int), .one (.cst (.row 3)), .one (.fl .int), .one (.fl .int), .one (.fl .int), .one (.fl .int), .one (.cst (.row 4)), .one (.cst (.row 5)), .one (.fl .bool), .one (.fl .int)], objs := [.row .pfx 27 false, .blk [.fl .addr] 25 true, .row .pfx 27 true, .row .pfx 27 true, .row .pfx 27 true, .row .pfx 27 true] }, exits := [⟨some 0, { keep := [7, 8, 9, 10, 11, 12, 13, 14, 15, 16, 17, 18], vals := [.one (.cst (.row 1)), .one (.fl .int), .one (.fl .bool), .one (.fl .int), .one (.cst (.row 2)), .one (.fl .int), .one (.fl .int), .one (.fl .int), .one (.fl .int), .one (.cst (.row 3)), .one (.cst (.row 4)), .one (.fl .bool)], objs := [.row .pfx 27 false, .row .pfx 27 true, .row .pfx 27 true, .row .pfx 27 true, .row .pfx 27 true] }⟩] }
def law_SpanTells_J : List (Nat × JoinS) := [(42, { n := 103, exits := [⟨some BIG, { keep := [0, 4, 5, 7, 8, 9, 10, 11, 12, 13, 14, 15], vals := [.one (.cst (.row 0)), .one (.cst (.ptr 1 0)), .one (.cst (.ptr 2 0)), .one (.cst (.row 3)), .one (.fl .int), .one (.fl .bool), .one (.fl .int), .one (.cst (.row 4)), .one (.fl .int), .one (.fl .int), .one (.fl .int), .one (.fl .int)], objs := [.row .pfx 27 false, .blk [.fl .addr] 25 true, .blk [.fl .pfx] 27 true, .row .pfx 27 true, .row .pfx 27 true] }⟩] }), (46, { n := 103, exits := [⟨some BIG, { keep := [0, 4, 5, 7, 8, 9, 10, 11, 12, 13, 14, 15], vals := [.one (.cst (.row 0)), .one (.cst (.ptr 1 0)), .one (.cst (.ptr 2 0)), .one (.cst (.row 3)), .one (.fl .int), .one (.fl .bool), .one (.fl .int), .one (.cst (.row 4)), .one (.fl .int), .one (.fl .int), .one (.fl .int), .one (.fl .int)], objs := [.row .pfx 27 false, .blk [.fl .addr] 25 true, .blk [.fl .pfx] 27 true, .row .pfx 27 true, .row .pfx 27 true] }⟩] }), (50, { n := 103, exits := [⟨some BIG, { keep := [0, 4, 5, 7, 8, 9, 10, 11, 12, 13, 14, 15, 16, 17], vals := [.one (.cst (.row 0)), .one (.cst (.ptr 1 0)), .one (.cst (.ptr 2 0)), .one (.cst (.row 3)), .one (.fl .int), .one (.fl .bool), .one (.fl .int), .one (.cst (.row 4)), .one (.fl .int), .one (.fl .int), .one (.fl .int), .one (.fl .int), .one (.cst (.row 5)), .one (.cst (.row 6))], objs := [.row .pfx 27 false, .blk [.fl .addr] 25 true, .blk [.fl .pfx] 27 true, .row .pfx 27 true, .row .pfx 27 true, .row .pfx 27 true, .row .pfx 27 true] }⟩] }), (54, { n := 103, exits := [⟨some BIG, { keep := [0, 4, 7, 8, 9, 10, 11, 12, 13, 14, 15, 16, 17], vals := [.one (.cst (.row 0)), .one (.cst (.ptr 1 0)), .one (.cst (.row 2)), .one (.fl .int), .one (.fl .bool), .one (.fl .int), .one (.cst (.row 3)), .one (.fl .int), .one (.fl .int), .one (.fl .int), .one (.fl .int), .one (.cst (.row 4)), .one (.cst (.row 5))], objs := [.row .pfx 27 false, .blk [.fl .addr] 25 true, .row .pfx 27 true, .row .pfx 27 true, .row .pfx 27 true, .row .pfx 27 true] }⟩] })]
noncomputable def law_SpanTells_env : Env := mkEnv ty fnB [(5, span_Norm_con), (6, span_Has_con), (7, span_Minus_con), (8, R_CheckList_con), (9, R_CheckAddr_con), (10, R_CheckPrefix_con), (11, R_NormOf_con), (12, R_HasAddr_con), (13, law_spanBegun_con), (14, law_prefixesAre_con)] [(17, (loopTr law_SpanTells_L17_S (loopN zq2 FUEL)))] law_SpanTells_J
theorem law_SpanTells_envOk : EnvOk Try.prog law_SpanTells_env := envOk tyOk fn_ok (callsCons span_Norm_ok (callsCons span_Has_ok (callsCons span_Minus_ok (callsCons R_CheckList_ok (callsCons R_CheckAddr_ok (callsCons R_CheckPrefix_ok (callsCons R_NormOf_ok (callsCons R_HasAddr_ok (callsCons law_spanBegun_ok (callsCons law_prefixesAre_ok callsNil)))))))))) _ _
theorem law_SpanTells_L17_ok : LOk Try.prog (nthLoop (codeOf Try.f3) 0) (loopTr law_SpanTells_L17_S (loopN zq2 FUEL)) := by
 have h : loopsOf (nthLoop (codeOf Try.f3) 0) = [] := by kernel_rfl
 refine loop_ok law_SpanTells_envOk (loopsOk h lsNil) law_SpanTells_L17_S zq2 FUEL (fun rec x => ?_)
 kernel_rfl
noncomputable def law_SpanTells_con : Con := con [.one (.row .pfx 27), .one (.fl .addr), .one (.fl .pfx)] [.one (.fl .bool)] (fun x => law_SpanTells_t x.1 x.2.1 x.2.2.1)
theorem law_SpanTells_ok : TrOk Try.prog 3 law_SpanTells_con := by
 have h : loopsOf (codeOf Try.f3) = [(nthLoop (codeOf Try.f3) 0)] := by kernel_rfl
 refine con_ok law_SpanTells_envOk Try.func3 (bodyOk h (lsCons (one_loop (t := (loopTr law_SpanTells_L17_S (loopN zq2 FUEL))) (by kernel_rfl) law_SpanTells_L17_ok) lsNil)) _ _ _ (fun x => ?_)
 kernel_rfl
end Go.Proofs.Ytjlkgfdnepfbiaa
namespace Go.Proofs.Ytjlkgfdnepfbiaa
open Go Go.Ma Go.ChangeShapes Go.WideShapes Go.ChangeAt Go.RowKit
set_option linter.unusedVariables false
theorem spanTells_own : ownKnob Try.prog.godebug = none := by kernel_rfl
theorem spanTells_laidOut : laidOutB Try.prog = true := by kernel_rfl
theorem spanTells_plain : ∀ x, PsIn [.one (.row .pfx 27), .one (.fl .addr), .one (.fl .pfx)] x → (fun x => law_SpanTells_t x.1 x.2.1 x.2.2.1) x = some ((true : Bool), ()) := fun x hx => SpanTells_eq hx.1.2 (lt_of_max hx.1.1) hx.2.1 hx.2.2.1
set_option maxRecDepth 100000 in
theorem spanTells_lifted (os : Os) (started : os.Started) (H : Type) (enc : TypeId × Value → H) :
  ReturnsInHanded {} Try.checked os 3 .any (Rows.spanTellsSpec.pre6 enc Try.prog Try.f3 Rows.spanTellsRow.domain false) (Rows.spanTellsSpec.post enc Try.prog Try.f3 false true false false) := by
 refine returnsInHanded_of_change (C := Try.checked) spanTells_own started (by kernel_rfl) Try.func3
  (ChangeSpec.witness6 (enc := enc) (C := Try.checked) false ⟨#[], #[.slice none 0 0, .agg #[.bool false, .int .u64 0, .int .u64 0], .agg #[.bool false, .int .u64 0, .int .u64 0, .int .i64 0]], []⟩ 8 (by kernel_rfl) (by kernel_rfl) (by kernel_rfl) (by kernel_rfl)) ?_
 intro W base args ds gs before hval0 hW hcnd _
 have hval : ∀ (j : Nat) t v, Try.f3.params[j]? = some t → args[j]? = some v → Value.okWide Try.prog W .any base t v := hval0
 have hW' := hW
 obtain ⟨p, q, hA0, hV, rfl, hfz, hnd⟩ := hW
 have hA : DataW.TrodAll enc Try.prog W 0 (fun _ => true) true Try.f3.params.toList args.toList ds p := hA0
 rw [Try.params3] at hA hval
 have hA2 := hA
 obtain ⟨v0, vs0, d0, ds0, p0, q0, hargs, rfl, rfl, h0, r0⟩ := trodAll_cons hA
 obtain ⟨v1, vs1, d1, ds1, p1, q1, rfl, rfl, rfl, h1, r1⟩ := trodAll_cons r0
 obtain ⟨v2, vs2, d2, ds2, p2, q2, rfl, rfl, rfl, h2, r2⟩ := trodAll_cons r1
 obtain ⟨rfl, rfl, rfl⟩ := trodAll_nil r2
 obtain rfl : args = #[v0, v1, v2] := by cases args; simp_all
 obtain ⟨rfl, rfl⟩ := trodVars_none hV
 have call := law_calls (enc := enc) (Glob.none (by kernel_rfl) (by kernel_rfl) (by kernel_rfl) (by kernel_rfl) (by kernel_rfl)) law_SpanTells_ok spanTells_plain (fun x => rfl) (fun x => rfl) (ts := [22, 25, 27]) (vs := [v0, v1, v2]) (by kernel_rfl) (fun j t v h1 h2 => hval j t v (by simpa using h1) (by simpa using h2)) hA2
 refine call.mono fun e W' ⟨he, bel⟩ => ?_
 subst he
 exact ⟨_, rfl, _, _, _, [], _, [], hW', trodAll_mk1 (shut_bool Try.underlying4 _), all_back spanTells_laidOut bel _ _ _ _ (by kernel_rfl) hA2, rfl, bel.frame _, fun h => by cases h⟩
theorem spanTells_over : Rows.spanTellsRow.holds Try.pinned (OpenSpec.ofChange Rows.spanTellsSpec) :=
 OpenClaim.holds_of_wide 3 Try.f3 rfl rfl rfl rfl rfl rfl rfl ⟨rfl, rfl, rfl, rfl, rfl⟩ rfl rfl rfl rfl rfl (by kernel_rfl) Try.func3 (by kernel_rfl)
  (of_decide_eq_true (by kernel_rfl)) (by unfold Func.isWrapper; rw [if_neg (of_decide_eq_false (by kernel_rfl))]; exact ⟨rfl, rfl⟩)
  (fun os started H enc _ => spanTells_lifted os started H enc)
theorem spanTells_said : Rows.SpanTellsSaid := spanTells_over
end Go.Proofs.Ytjlkgfdnepfbiaa
