/-
  Six laws of lists of prefixes, picks and halves, together.
-/
import Derived.Shelf.SlSortCmp.WholeK
import Derived.Laws.AppendOwn
import Derived.Shelf.SlSortCmp.NoneTotal
import Derived.Shelf.Vars
import Derived.Lib.LaidTab
import Derived.LaidLaws
import Derived.MakeChecks
import Derived.Test.YtfkfpgoicmfpkaaGreatDoorCards
import Derived.Test.YtfkfpgoicmfpkaaGreatDoorTie
import Derived.WalkKit
import Derived.ProofKit
import Derived.OpenShut
import Derived.ShutString
import Derived.ChangeOld
import Derived.Below
import Derived.JoinedCond
import Derived.Deep.DeepHandedRow
import Derived.Lib.IndexMore
import Derived.Lib.IndexLaws
import Derived.Test.YtfkfpgoicmfpkaaGreatDoorZz4
set_option linter.unusedVariables false
set_option linter.unusedSimpArgs false
namespace Go.Ma
open Go Go.Shelf Go.RowKit Go.Lib Go.Proofs Go.Sort
theorem flatMap_get {α : Type} (enc : α → List Value) (k : Nat) (hk : ∀ x, (enc x).length = k) : ∀ (l : List α) (j : Nat), j < l.length * k → (l.flatMap enc)[j]? = (l[j / k]?).bind fun a => (enc a)[j % k]?
 | [], j, h => by simp at h
 | x :: r, j, h => by
  have k0 : 0 < k := by
   rcases Nat.eq_zero_or_pos k with h0 | h0
   ·subst h0; simp at h
   ·exact h0
  rw [List.flatMap_cons]
  by_cases hj : j < k
  ·rw [List.getElem?_append_left (by rw [hk]; exact hj), Nat.div_eq_of_lt hj, Nat.mod_eq_of_lt hj]
   rfl
  ·rw [List.getElem?_append_right (by rw [hk]; omega), hk, flatMap_get enc k hk r (j - k) (by simp [Nat.add_mul] at h; omega)]
   have e1 : j / k = (j - k) / k + 1 := by
    have := Nat.add_div_right (j - k) k0
    rwa [Nat.sub_add_cancel (by omega)] at this
   have e2 : (j - k) % k = j % k := by
    have := Nat.add_mod_right (j - k) k
    rwa [Nat.sub_add_cancel (by omega), eq_comm] at this
   rw [e1, e2, List.getElem?_cons_succ]
theorem flatK_eq {α : Type} [Inhabited α] (enc : α → List Value) (k : Nat) (hk : ∀ x, (enc x).length = k) (d : Array α) : (flatK enc k d).toList = d.toList.flatMap enc := by
 have hlen' : ∀ l : List α, (l.flatMap enc).length = l.length * k := by
  intro l
  induction l with
  | nil => simp
  | cons x r ih => rw [List.flatMap_cons, List.length_append, hk, ih, List.length_cons, Nat.add_mul]; omega
 have hlen : (d.toList.flatMap enc).length = d.size * k := by rw [hlen']; simp
 refine List.ext_getElem? fun j => ?_
 by_cases hj : j < d.size * k
 ·have k0 : 0 < k := by
   rcases Nat.eq_zero_or_pos k with h0 | h0
   ·subst h0; simp at hj
   ·exact h0
  rw [flatMap_get enc k hk d.toList j (by simpa using hj)]
  have hd : j / k < d.size := Nat.div_lt_of_lt_mul (by rw [Nat.mul_comm]; exact hj)
  have hm : j % k < (enc (d[j / k]'hd)).length := by rw [hk]; exact Nat.mod_lt _ k0
  have h1 : (flatK enc k d).toList[j]? = some (flatK enc k d)[j]! := by
   rw [Array.getElem?_toList, Array.getElem?_eq_getElem (by simpa using hj), getElem!_pos _ j (by simpa using hj)]
  rw [h1, get_flatK _ _ _ _ hj, getElem!_pos d _ hd, Array.getElem?_toList, Array.getElem?_eq_getElem hd, Option.bind_some, List.getElem?_eq_getElem hm, getElem!_pos (enc (d[j / k]'hd)) (j % k) hm]
 ·rw [List.getElem?_eq_none (by simpa using hj), List.getElem?_eq_none (by omega)]
theorem putCells_take (F : Array Value) (c : Array Value) (h : F.size ≤ c.size) : (putCells id 0 F c).toList.take F.size = F.toList := by
 refine List.ext_getElem? fun j => ?_
 rw [List.getElem?_take]
 by_cases hj : j < F.size
 ·rw [if_pos hj]
  unfold putCells
  rw [Array.getElem?_toList, Array.getElem?_mapIdx, Array.getElem?_eq_getElem (show j < c.size by omega), Option.map_some, if_pos (by omega), Array.getElem?_toList, Array.getElem?_eq_getElem hj]
  simp [getElem!_pos F j hj]
 ·rw [if_neg hj, List.getElem?_eq_none (by simpa using hj)]
theorem sort_gen {P : Program} {ρ : Ren} {α : Type} [Inhabited α] (L : SlLaysF0.n6 P ρ) (k : Nat) (aE : ∀ w, (isAgg (ρ.t 24)).run P w = .ok true w) (zE : ∀ w, (Go.sizeOf (ρ.t 24)).run P w = .ok k w) (enc : α → List Value) (hk : ∀ x, (enc x).length = k) (h1 : ∀ x, ∀ v ∈ enc x, v.oneCell' = true) (cf : α → α → Int) (hO : SWO (ltOf cf)) (g : Nat) (cb : Array Value)
  (eg : ∀ args w, (callFunc g args).run P w = .ok (.enter g args) w)
  (hcmp : ∀ (w : World) (x y : α), Calls P g (#[.agg (enc x).toArray, .agg (enc y).toArray] ++ cb) w fun e w' => e = .returned (.int .i64 (cf x y)) ∧ ∃ q os', w' = grow (w.drewN q) os')
  (base : Nat) (e : TypeId) (w : World) (v : Value) (l : List α) (hown : w.ownsRow base e k v l.length (l.flatMap enc)) (hl : l ≠ []) (hsz : l.length < 4611686018427387904) :
  Calls P (ρ.f 6) #[v, .func (.func g) #[] cb] w fun r w' => r = .returned (.tuple #[]) ∧ ∃ l' : List α, l'.Perm l ∧ l'.Pairwise (fun a b => ltOf cf b a = false) ∧ w'.ownsRow base e k v l'.length (l'.flatMap enc) ∧ w.grownBy w' v.ownBlock := by
 obtain ⟨hlen, ⟨_, h0⟩ | ⟨b, cap, cur, rfl, hb, hg, hnc, hcm, hcs, htake⟩⟩ := hown
 ·exact absurd (List.eq_nil_of_length_eq_zero h0) hl
 have hblk : b < w.heap.size := (Array.getElem?_eq_some_iff.1 hg).1
 have hkc : l.length * k ≤ cur.size := by rw [hcs]; exact Nat.mul_le_mul_right k hnc
 have hflat : (flatK enc k l.toArray).toList = l.flatMap enc := by rw [flatK_eq enc k hk]
 have hH : HoldsK enc k w b 0 l.toArray := by
  intro j hj
  have hj : j < l.length * k := by simpa using hj
  refine ⟨?_, ?_⟩
  ·have hc : w.cell? ⟨b, 0 + j, none⟩ = cur[j]? := by simp [World.cell?, hg]
   rw [hc]
   have e1 : cur[j]? = (flatK enc k l.toArray)[j]? := by
    rw [← Array.getElem?_toList, ← Array.getElem?_toList, hflat, ← htake, List.getElem?_take, if_pos hj]
   rw [e1, Array.getElem?_eq_getElem (by simpa using hj), getElem!_pos _ j (by simpa using hj)]
   rfl
  ·simp [World.frozen?, hg]
 refine (AnyQ.slices_SortFunc L k aE zE enc hk h1 cf hO g cb b 0 cap l.toArray w eg (fun m os dk _ x y => hcmp _ x y) hH hblk (by simpa using hsz)).mono ?_
 rintro r w' ⟨rfl, d', n, os, hp, hs, rfl⟩
 obtain ⟨hsize, _, hperm⟩ := hp
 have hsize : d'.size = l.length := by simpa using hsize
 have hperm : d'.toList.Perm l := by
  have e1 : d'.extract 0 l.length = d' := by rw [← hsize]; simp
  have e2 : l.toArray.extract 0 l.length = l.toArray := by simp
  have : l.toArray.size = l.length := by simp
  rw [this, e1, e2] at hperm
  simpa using hperm
 have hheap : (sortWorldK enc k w b 0 n d' os).heap[b]? = some (.cells (putCells id 0 (flatK enc k d') cur) e (0, 0)) := by
  simp only [sortWorldK, grow, putRowK, putRow, mapBlock, Sort.ahead]
  rw [Array.getElem?_append_left (by simpa using hblk), Array.getElem?_modify, if_pos rfl, hg]
  rfl
 refine ⟨rfl, d'.toList, hperm, ?_, ⟨?_, .inr ⟨b, cap, _, ?_, hb, hheap, ?_, hcm, ?_, ?_⟩⟩, ⟨rfl, rfl, rfl, ?_, ?_⟩⟩
 ·rw [List.pairwise_iff_getElem]
  intro i j hi hj hij
  have hj' : j < d'.size := by simpa using hj
  have := hs i j (Nat.zero_le _) hij (by simp; omega)
  rw [getElem!_pos d' j hj', getElem!_pos d' i (by omega)] at this
  simpa using this
 ·rw [← flatK_eq enc k hk]; simp
 ·simp [hsize]
 ·simp [hsize]; omega
 ·simp [putCells, hcs]
 ·have hf : (flatK enc k d').size = d'.toList.length * k := by simp
  rw [← flatK_eq enc k hk, ← hf, putCells_take]
  simp only [size_flatK, hsize]
  exact hkc
 ·simp [sortWorldK, grow, putRowK, putRow, mapBlock, Sort.ahead]
 ·intro q hq hne
  have hne : b ≠ q := fun e => hne (by simp [Value.ownBlock, e])
  simp only [sortWorldK, grow, putRowK, putRow, mapBlock, Sort.ahead]
  rw [Array.getElem?_append_left (by simpa using hq), Array.getElem?_modify, if_neg hne]
end Go.Ma
namespace Go.Proofs.YtfkfpgoicmfpkaaGreatDoor
open Go Go.Ma Go.RowKit Go.Lib Go.Proofs Go.Sort
theorem cmpA_lt (a b : Ad) : decide (cmpA a b < 0) = adLt a b := by
 unfold cmpA cmpN adLt
 obtain ⟨av, ah, al⟩ := a
 obtain ⟨bv, bh, bl⟩ := b
 cases av <;> cases bv <;> simp
 all_goals
  by_cases h : ah = bh
  ·subst h
   by_cases h1 : al < bl
   ·simp [h1]
   ·by_cases h2 : bl < al <;> simp [h1, h2]
  ·by_cases h1 : ah < bh
   ·simp [h, h1]
   ·by_cases h2 : bh < ah <;> simp [h, h1, h2]
abbrev PB := {p : Pf // 0 ≤ p.bits ∧ p.bits ≤ 128}
instance : Inhabited PB := ⟨⟨⟨⟨false, 0, 0⟩, 0⟩, by decide⟩⟩
theorem cmpA_zero (a b : Ad) : cmpA a b = 0 ↔ a = b := by
 constructor
 ·intro h
  refine adLt_tri a b ?_ ?_
  ·rw [← cmpA_lt, h]; rfl
  ·rw [← cmpA_lt]
   unfold cmpA cmpN at h ⊢
   obtain ⟨av, ah, al⟩ := a
   obtain ⟨bv, bh, bl⟩ := b
   simp only at h ⊢
   cases av <;> cases bv <;> simp at h ⊢
   all_goals
    by_cases h1 : ah = bh
    ·subst h1; simp at h ⊢; split at h <;> split <;> omega
    ·simp [h1, Ne.symm h1] at h ⊢; split at h <;> split <;> omega
 ·intro h
  subst h
  unfold cmpA cmpN
  simp
theorem pb_of : ∀ l : List Pf, (l.all fun p => decide (0 ≤ p.bits) && decide (p.bits ≤ 128)) = true → ∃ m : List PB, m.map Subtype.val = l
 | [], _ => ⟨[], rfl⟩
 | p :: r, h => by
  rw [List.all_cons, Bool.and_eq_true, Bool.and_eq_true, decide_eq_true_iff, decide_eq_true_iff] at h
  obtain ⟨m, hm⟩ := pb_of r h.2
  exact ⟨⟨p, h.1⟩ :: m, by rw [List.map_cons, hm]⟩
theorem ltOf_pb (x y : PB) : ltOf (fun x y : PB => cmpP x.1 y.1) x y = pfLt x.1 y.1 := by
 show decide (cmpP x.1 y.1 < 0) = _
 unfold cmpP pfLt
 by_cases h : cmpA x.1.ad y.1.ad = 0
 ·have e := (cmpA_zero _ _).1 h
  rw [if_neg (fun hh => hh h), e, adLt_irrefl, Bool.false_or, decide_eq_true rfl, Bool.true_and, decide_eq_decide]
  omega
 ·rw [if_pos h, cmpA_lt, decide_eq_false (fun e => h ((cmpA_zero _ _).2 e)), Bool.false_and, Bool.or_false]
theorem swo_pb : SWO (ltOf fun x y : PB => cmpP x.1 y.1) where
 irrefl x := by rw [ltOf_pb]; exact pfLt_irrefl _
 trans x y z h1 h2 := by rw [ltOf_pb] at *; exact pfLt_trans h1 h2
 ntrans x y z h1 h2 := by rw [ltOf_pb] at *; exact pfLt_ntrans h1 h2
theorem encPf_K (ρ : Nat → Value) (x : Pf) : denL ρ (K.enc .pfx x) = encPf x := rfl
noncomputable def slices_SortFunc___api_Prefix_api_Prefix__con : Con := sortCon .pfx sortOkP sortP 27 59
theorem slices_SortFunc___api_Prefix_api_Prefix__ok : TrOk Tryz.prog 58 slices_SortFunc___api_Prefix_api_Prefix__con := by
 refine sort_ok .pfx sortOkP sortP _ _ (fun W hG base w v l ρ hb hown hbase hok => ?_)
 simp only [sortOkP, Bool.and_eq_true, List.all_eq_true, decide_eq_true_eq] at hok
 obtain ⟨h2, h3⟩ := hok
 have hsz : l.length < 4611686018427387904 := by
  have := Nat.le_of_ble_eq_true (show Nat.ble ((l.length : Int).toNat + (0 : Int).toNat) 274877906944 = true from h2)
  have e : (0 : Int).toNat = 0 := rfl
  omega
 have e0 : (fun a : Pf => denL ρ (K.enc .pfx a)) = encPf := funext fun x => encPf_K ρ x
 have hown' : w.ownsRow base 27 4 v l.length (l.flatMap encPf) := by rw [← e0]; exact hown
 by_cases h1 : l = []
 ·subst h1
  obtain ⟨p, cap, rfl⟩ : ∃ p cap, v = .slice p 0 cap := by
   obtain ⟨_, ⟨e, _⟩ | ⟨b, cap, cur, e, _⟩⟩ := hown'
   ·exact ⟨_, _, e⟩
   ·exact ⟨_, _, e⟩
  refine (AnyF.slices_SortFunc_none Tryz.sortLs p cap _ w).mono ?_
  rintro r w' ⟨rfl, rfl⟩
  exact ⟨rfl, hown, World.grownBy.refl _ _⟩
 obtain ⟨m, hm⟩ := pb_of l h3
 subst hm
 have hfm : ∀ k : List PB, (k.map Subtype.val).flatMap encPf = k.flatMap fun x : PB => encPf x.1 := fun k => by rw [List.flatMap_map]
 have hlm : (m.map Subtype.val).length = m.length := List.length_map _
 have hown2 : w.ownsRow base 27 4 v m.length (m.flatMap fun x : PB => encPf x.1) := by rw [← hlm, ← hfm]; exact hown'
 have hg := sort_gen Tryz.sortLs 4 (fun w => Tryz.isAgg27 w) (fun w => Tryz.sizeOf27 w) (fun x : PB => encPf x.1) (fun _ => rfl) (fun x v hv => by
   simp only [encPf, List.mem_cons, List.not_mem_nil, or_false] at hv
   rcases hv with rfl | rfl | rfl | rfl <;> rfl) (fun x y : PB => cmpP x.1 y.1) swo_pb 59 #[] (enters_of Tryz.func59 (by kernel_rfl) rfl)
  (fun w x y => pfCmp_walk x.1 y.1 x.2 y.2 w) base 27 w v m hown2 (fun e => h1 (by rw [e]; rfl)) (by rw [← hlm]; exact hsz)
 refine hg.mono ?_
 rintro r w' ⟨rfl, l', hp, hpw, hown3, hgb⟩
 have hl' : l'.map Subtype.val = sortP (m.map Subtype.val) := sortP_uniq (hp.map _) (List.pairwise_map.2 (hpw.imp fun {a b} h => by
  rw [ltOf_pb] at h
  exact h))
 refine ⟨rfl, ?_, hgb⟩
 show w'.ownsRow base 27 4 v (sortP (m.map Subtype.val)).length ((sortP (m.map Subtype.val)).flatMap fun a : Pf => denL ρ (K.enc .pfx a))
 have hlm3 : (l'.map Subtype.val).length = l'.length := List.length_map _
 rw [e0, ← hl', hfm]
 rw [← hlm3] at hown3
 exact hown3
end Go.Proofs.YtfkfpgoicmfpkaaGreatDoor
namespace Go.Proofs.YtfkfpgoicmfpkaaGreatDoor
open Go Go.Ma
def zq33 : LoopS := { n := 58, base := 5, head := { keep := [0, 3, 4], vals := [.one (.cst (.ptr 1 0)), .one (.cst (.ptr 5 0)), .one (.fl .int)], objs := [.row .pfx 27 false, .blk [.cst (.row 3)] 93 true, .row .pfx 27 true, .row .pfx 27 true, .blk [.fl .pfx] 27 true, .blk [.fl .pfx] 27 true] }, exits := [⟨some 0, { keep := [0, 3, 4], vals := [.one (.cst (.ptr 1 0)), .one (.cst (.ptr 5 0)), .one (.fl .int)], objs := [.row .pfx 27 false, .blk [.cst (.row 3)] 93 true, .row .pfx 27 true, .row .pfx 27 true, .blk [.fl .pfx] 27 true, .blk [.fl .pfx] 27 true] }⟩] }
noncomputable def span_Short___span_stack__put_env : Env := mkEnv ty fnB [(42, prefix_Over_con), (43, prefix_Joined_con)] [(3, (loopTr zq33 (loopN zq32 FUEL)))]
theorem span_Short___span_stack__put_envOk : EnvOk Tryz.prog span_Short___span_stack__put_env := envOk tyOk fn_ok (callsCons prefix_Over_ok (callsCons prefix_Joined_ok callsNil)) _
theorem span_Short___span_stack__put_L3_ok : LOk Tryz.prog (nthLoop (codeOf Tryz.f60) 0) (loopTr zq33 (loopN zq32 FUEL)) := by
 have h : loopsOf (nthLoop (codeOf Tryz.f60) 0) = [] := by kernel_rfl
 refine loop_ok span_Short___span_stack__put_envOk (loopsOk h lsNil) zq33 zq32 FUEL (fun rec x => ?_)
 kernel_rfl
theorem span_Short___span_stack__put_inl : TrOk Tryz.prog 60 (inlCon span_Short___span_stack__put_env Tryz.f60) := by
 have h : loopsOf (codeOf Tryz.f60) = [(nthLoop (codeOf Tryz.f60) 0)] := by kernel_rfl
 exact inl_ok span_Short___span_stack__put_envOk Tryz.func60 (bodyOk h (lsCons (one_loop (t := (loopTr zq33 (loopN zq32 FUEL))) (by kernel_rfl) span_Short___span_stack__put_L3_ok) lsNil))
def span_Short_L5_S : LoopS := { n := 27, base := 1, head := { keep := [3, 13, 14, 15], vals := [.one (.cst (.ptr 1 0)), .one (.cst (.row 2)), .one (.fl .int), .one (.fl .int)], objs := [.row .pfx 27 false, .blk [.cst (.row 3)] 93 true, .row .pfx 27 true, .row .pfx 27 true] }, exits := [⟨some 0, { keep := [3], vals := [.one (.cst (.ptr 1 0))], objs := [.row .pfx 27 false, .blk [.cst (.row 2)] 93 true, .row .pfx 27 true] }⟩] }
noncomputable def span_Short_env : Env := mkEnv ty fnB [(57, slices_Clone___api_Prefix_api_Prefix__con), (58, slices_SortFunc___api_Prefix_api_Prefix__con), (60, (inlCon span_Short___span_stack__put_env Tryz.f60))] [(5, (loopTr span_Short_L5_S (loopN span_Short_L5 FUEL)))]
theorem span_Short_envOk : EnvOk Tryz.prog span_Short_env := envOk tyOk fn_ok (callsCons slices_Clone___api_Prefix_api_Prefix__ok (callsCons slices_SortFunc___api_Prefix_api_Prefix__ok (callsCons span_Short___span_stack__put_inl callsNil))) _
theorem span_Short_L5_ok : LOk Tryz.prog (nthLoop (codeOf Tryz.f32) 0) (loopTr span_Short_L5_S (loopN span_Short_L5 FUEL)) := by
 have h : loopsOf (nthLoop (codeOf Tryz.f32) 0) = [] := by kernel_rfl
 refine loop_ok span_Short_envOk (loopsOk h lsNil) span_Short_L5_S span_Short_L5 FUEL (fun rec x => ?_)
 kernel_rfl
noncomputable def span_Short_con : Con := con [.one (.row .pfx 27)] [.one (.row .pfx 27)] (fun x => span_Short_t x.1)
theorem span_Short_ok : TrOk Tryz.prog 32 span_Short_con := by
 have h : loopsOf (codeOf Tryz.f32) = [(nthLoop (codeOf Tryz.f32) 0)] := by kernel_rfl
 refine con_ok span_Short_envOk Tryz.func32 (bodyOk h (lsCons (one_loop (t := (loopTr span_Short_L5_S (loopN span_Short_L5 FUEL))) (by kernel_rfl) span_Short_L5_ok) lsNil)) _ _ _ (fun x => ?_)
 kernel_rfl
noncomputable def span_Norm_env : Env := mkEnv ty fnB [(31, span_Right_con), (32, span_Short_con)] []
theorem span_Norm_envOk : EnvOk Tryz.prog span_Norm_env := envOk tyOk fn_ok (callsCons span_Right_ok (callsCons span_Short_ok callsNil)) _
noncomputable def span_Norm_con : Con := con [.one (.row .pfx 27)] [.one (.row .pfx 27), .one (.fl .int)] (fun x => span_Norm_t x.1)
theorem span_Norm_ok : TrOk Tryz.prog 11 span_Norm_con := by
 have h : loopsOf (codeOf Tryz.f11) = [] := by kernel_rfl
 refine con_ok span_Norm_envOk Tryz.func11 (bodyOk h lsNil) _ _ _ (fun x => ?_)
 kernel_rfl
def span_Less_L3_S : LoopS := { n := 22, base := 1, head := { keep := [3, 5, 8, 9, 10], vals := [.one (.cst (.ptr 1 0)), .one (.cst (.row 2)), .one (.cst (.row 0)), .one (.fl .int), .one (.fl .int)], objs := [.row .pfx 27 false, .blk [.fl .pfx] 27 true, .row .pfx 27 true] }, exits := [⟨some 0, { keep := [5], vals := [.one (.cst (.row 1))], objs := [.row .pfx 27 false, .row .pfx 27 true] }⟩] }
noncomputable def span_Less_env : Env := mkEnv ty fnB [(61, span_rest_con), (32, span_Short_con)] [(3, (loopTr span_Less_L3_S (loopN span_Less_L3 FUEL)))]
theorem span_Less_envOk : EnvOk Tryz.prog span_Less_env := envOk tyOk fn_ok (callsCons span_rest_ok (callsCons span_Short_ok callsNil)) _
theorem span_Less_L3_ok : LOk Tryz.prog (nthLoop (codeOf Tryz.f33) 0) (loopTr span_Less_L3_S (loopN span_Less_L3 FUEL)) := by
 have h : loopsOf (nthLoop (codeOf Tryz.f33) 0) = [] := by kernel_rfl
 refine loop_ok span_Less_envOk (loopsOk h lsNil) span_Less_L3_S span_Less_L3 FUEL (fun rec x => ?_)
 kernel_rfl
noncomputable def span_Less_con : Con := con [.one (.row .pfx 27), .one (.fl .pfx)] [.one (.row .pfx 27)] (fun x => span_Less_t x.1 x.2.1)
theorem span_Less_ok : TrOk Tryz.prog 33 span_Less_con := by
 have h : loopsOf (codeOf Tryz.f33) = [(nthLoop (codeOf Tryz.f33) 0)] := by kernel_rfl
 refine con_ok span_Less_envOk Tryz.func33 (bodyOk h (lsCons (one_loop (t := (loopTr span_Less_L3_S (loopN span_Less_L3 FUEL))) (by kernel_rfl) span_Less_L3_ok) lsNil)) _ _ _ (fun x => ?_)
 kernel_rfl
noncomputable def span_Minus_env : Env := mkEnv ty fnB [(31, span_Right_con), (16, zq17), (33, span_Less_con)] []
theorem span_Minus_envOk : EnvOk Tryz.prog span_Minus_env := envOk tyOk fn_ok (callsCons span_Right_ok (callsCons zq19 (callsCons span_Less_ok callsNil))) _
noncomputable def span_Minus_con : Con := con [.one (.row .pfx 27), .one (.fl .pfx)] [.one (.row .pfx 27), .one (.fl .int)] (fun x => span_Minus_t x.1 x.2.1)
theorem span_Minus_ok : TrOk Tryz.prog 12 span_Minus_con := by
 have h : loopsOf (codeOf Tryz.f12) = [] := by kernel_rfl
 refine con_ok span_Minus_envOk Tryz.func12 (bodyOk h lsNil) _ _ _ (fun x => ?_)
 kernel_rfl
noncomputable def law_spanBegun_env : Env := mkEnv ty fnB [(29, law_net_con), (11, span_Norm_con), (30, law_v4_con), (13, span_Has_con), (12, span_Minus_con), (15, R_SamePrefixes_con)] []
theorem law_spanBegun_envOk : EnvOk Tryz.prog law_spanBegun_env := envOk tyOk fn_ok (callsCons law_net_ok (callsCons span_Norm_ok (callsCons law_v4_ok (callsCons span_Has_ok (callsCons span_Minus_ok (callsCons R_SamePrefixes_ok callsNil)))))) _
noncomputable def law_spanBegun_con : Con := con [] [.one (.fl .bool)] (fun x => law_spanBegun_t)
theorem law_spanBegun_ok : TrOk Tryz.prog 9 law_spanBegun_con := by
 have h : loopsOf (codeOf Tryz.f9) = [] := by kernel_rfl
 refine con_ok law_spanBegun_envOk Tryz.func9 (bodyOk h lsNil) _ _ _ (fun x => ?_)
 kernel_rfl
noncomputable def internal_stringslite_Cut_env : Env := mkEnv ty fnB [(80, internal_stringslite_Index_con)] []
theorem internal_stringslite_Cut_envOk : EnvOk Tryz.prog internal_stringslite_Cut_env := envOk tyOk fn_ok (callsCons internal_stringslite_Index_ok callsNil) _
noncomputable def internal_stringslite_Cut_con : Con := con [.one (.fl .str), .one (.fl .str)] [.one (.fl .str), .one (.fl .str), .one (.fl .bool)] (fun x => internal_stringslite_Cut_t x.1 x.2.1)
theorem internal_stringslite_Cut_ok : TrOk Tryz.prog 67 internal_stringslite_Cut_con := by
 have h : loopsOf (codeOf Tryz.f67) = [] := by kernel_rfl
 refine con_ok internal_stringslite_Cut_envOk Tryz.func67 (bodyOk h lsNil) _ _ _ (fun x => ?_)
 kernel_rfl
noncomputable def strings_Cut_env : Env := mkEnv ty fnB [(67, internal_stringslite_Cut_con)] []
theorem strings_Cut_envOk : EnvOk Tryz.prog strings_Cut_env := envOk tyOk fn_ok (callsCons internal_stringslite_Cut_ok callsNil) _
noncomputable def strings_Cut_con : Con := con [.one (.fl .str), .one (.fl .str)] [.one (.fl .str), .one (.fl .str), .one (.fl .bool)] (fun x => strings_Cut_t x.1 x.2.1)
theorem strings_Cut_ok : TrOk Tryz.prog 53 strings_Cut_con := by
 have h : loopsOf (codeOf Tryz.f53) = [] := by kernel_rfl
 refine con_ok strings_Cut_envOk Tryz.func53 (bodyOk h lsNil) _ _ _ (fun x => ?_)
 kernel_rfl
noncomputable def addr_Parse_env : Env := mkEnv ty fnB [(64, addr_told_con)] []
theorem addr_Parse_envOk : EnvOk Tryz.prog addr_Parse_env := envOk tyOk fn_ok (callsCons addr_told_ok callsNil) _
noncomputable def addr_Parse_con : Con := con [.one (.fl .str)] [.one (.fl .addr), .one (.fl .int)] (fun x => addr_Parse_t x.1)
theorem addr_Parse_ok : TrOk Tryz.prog 49 addr_Parse_con := by
 have h : loopsOf (codeOf Tryz.f49) = [] := by kernel_rfl
 refine con_ok addr_Parse_envOk Tryz.func49 (bodyOk h lsNil) _ _ _ (fun x => ?_)
 kernel_rfl
noncomputable def prefix_Parse_env : Env := mkEnv ty fnB [(53, strings_Cut_con), (49, addr_Parse_con), (54, prefix_Digits_con), (16, zq17)] []
theorem prefix_Parse_envOk : EnvOk Tryz.prog prefix_Parse_env := envOk tyOk fn_ok (callsCons strings_Cut_ok (callsCons addr_Parse_ok (callsCons prefix_Digits_ok (callsCons zq19 callsNil)))) _
noncomputable def prefix_Parse_con : Con := con [.one (.fl .str)] [.one (.fl .pfx), .one (.fl .int)] (fun x => prefix_Parse_t x.1)
theorem prefix_Parse_ok : TrOk Tryz.prog 26 prefix_Parse_con := by
 have h : loopsOf (codeOf Tryz.f26) = [] := by kernel_rfl
 refine con_ok prefix_Parse_envOk Tryz.func26 (bodyOk h lsNil) _ _ _ (fun x => ?_)
 kernel_rfl
def addr_groups_L3_S : LoopS := { n := 24, base := 0, head := { keep := [2, 3, 7, 8], vals := [.one (.fl .int), .one (.cst (.ptr 0 0)), .one (.cst (.row 1)), .one (.fl .int)], objs := [.blk [.fl .addr] 25 true, .row .str 9 true] }, exits := [⟨some 0, { keep := [7], vals := [.one (.cst (.row 0))], objs := [.row .str 9 true] }⟩] }
noncomputable def addr_groups_env : Env := mkEnv ty fnB [(102, addr_group_con), (75, strconv_FormatUint_con), (76, strings_Join_con)] [(3, (loopTr addr_groups_L3_S (loopN addr_groups_L3 FUEL)))]
theorem addr_groups_envOk : EnvOk Tryz.prog addr_groups_env := envOk tyOk fn_ok (callsCons addr_group_ok (callsCons strconv_FormatUint_ok (callsCons strings_Join_ok callsNil))) _
theorem addr_groups_L3_ok : LOk Tryz.prog (nthLoop (codeOf Tryz.f78) 0) (loopTr addr_groups_L3_S (loopN addr_groups_L3 FUEL)) := by
 have h : loopsOf (nthLoop (codeOf Tryz.f78) 0) = [] := by kernel_rfl
 refine loop_ok addr_groups_envOk (loopsOk h lsNil) addr_groups_L3_S addr_groups_L3 FUEL (fun rec x => ?_)
 kernel_rfl
noncomputable def addr_groups_con : Con := con [.one (.fl .addr), .one (.fl .int), .one (.fl .int)] [.one (.fl .str)] (fun x => zq3 x.1 x.2.1 x.2.2.1)
theorem addr_groups_ok : TrOk Tryz.prog 78 addr_groups_con := by
 have h : loopsOf (codeOf Tryz.f78) = [(nthLoop (codeOf Tryz.f78) 0)] := by kernel_rfl
 refine con_ok addr_groups_envOk Tryz.func78 (bodyOk h (lsCons (one_loop (t := (loopTr addr_groups_L3_S (loopN addr_groups_L3 FUEL))) (by kernel_rfl) addr_groups_L3_ok) lsNil)) _ _ _ (fun x => ?_)
 kernel_rfl
def addr_Text_L4_S : LoopS := { n := 44, base := 0, head := { keep := [1, 3, 4], vals := [.one (.cst (.ptr 0 0)), .one (.cst (.row 1)), .one (.fl .int)], objs := [.blk [.fl .addr] 25 true, .row .str 9 true] }, exits := [⟨some 0, { keep := [3], vals := [.one (.cst (.row 0))], objs := [.row .str 9 true] }⟩] }
noncomputable def addr_Text_env : Env := mkEnv ty fnB [(75, strconv_FormatUint_con), (76, strings_Join_con), (77, addr_longest_con), (78, addr_groups_con)] [(4, (loopTr addr_Text_L4_S (loopN addr_Text_L4 FUEL)))]
theorem addr_Text_envOk : EnvOk Tryz.prog addr_Text_env := envOk tyOk fn_ok (callsCons strconv_FormatUint_ok (callsCons strings_Join_ok (callsCons addr_longest_ok (callsCons addr_groups_ok callsNil)))) _
theorem addr_Text_L4_ok : LOk Tryz.prog (nthLoop (codeOf Tryz.f65) 0) (loopTr addr_Text_L4_S (loopN addr_Text_L4 FUEL)) := by
 have h : loopsOf (nthLoop (codeOf Tryz.f65) 0) = [] := by kernel_rfl
 refine loop_ok addr_Text_envOk (loopsOk h lsNil) addr_Text_L4_S addr_Text_L4 FUEL (fun rec x => ?_)
 kernel_rfl
theorem addr_Text_key (f0 : type_of% zq34) (f1 : type_of% strings_Join_t) (f2 : type_of% addr_longest_t) (f3 : type_of% zq3) (g0 : type_of% (loopN addr_Text_L4 FUEL)) (x : PsT [.one (.fl .addr)]) : ixF (mkEnv ty fnB [(75, (con [.one (.fl .u64), .one (.fl .int)] [.one (.fl .str)] (fun x => f0 x.1 x.2.1))), (76, (con [.one (.row .str 9), .one (.fl .str)] [.one (.fl .str)] (fun x => f1 x.1 x.2.1))), (77, (con [.one (.fl .addr)] [.one (.fl .int), .one (.fl .int)] (fun x => f2 x.1))), (78, (con [.one (.fl .addr), .one (.fl .int), .one (.fl .int)] [.one (.fl .str)] (fun x => f3 x.1 x.2.1 x.2.2.1)))] [(4, (loopTr addr_Text_L4_S g0))]) Tryz.f65 (encA false [.one (.fl .addr)] x 0).1 (encA false [.one (.fl .addr)] x 0).2 (resR [.one (.fl .str)]) = (fun (a0 : Ad) => (br (!a0.v6)
  ((g0 (((()), (()), (24, ()), ()), ((a0, ()), ([] : List ByteArray), ()))).bind fun y1 =>
  (f1 y1.2.1 (⟨#[46]⟩ : ByteArray)).bind fun y2 =>
  some (y2.1, ()))
  ((f2 a0).bind fun y1 =>
  br (decide (y1.2.1 = 0))
   ((f3 a0 0 8).bind fun y2 =>
   some (y2.1, ()))
   ((f3 a0 0 y1.1).bind fun y2 =>
   req (roomS (catS y2.1 (⟨#[58, 58]⟩ : ByteArray))) <|
   req (i64ok (y1.1 + y1.2.1)) <|
   (f3 a0 (y1.1 + y1.2.1) 8).bind fun y3 =>
   req (roomS (catS (catS y2.1 (⟨#[58, 58]⟩ : ByteArray)) y3.1)) <|
   some (catS (catS y2.1 (⟨#[58, 58]⟩ : ByteArray)) y3.1, ()))) : Option (ByteArray × Unit))) x.1 := by
 kernel_rfl
noncomputable def addr_Text_con : Con := con [.one (.fl .addr)] [.one (.fl .str)] (fun x => addr_Text_t x.1)
theorem addr_Text_ok : TrOk Tryz.prog 65 addr_Text_con := by
 have h : loopsOf (codeOf Tryz.f65) = [(nthLoop (codeOf Tryz.f65) 0)] := by kernel_rfl
 refine con_ok addr_Text_envOk Tryz.func65 (bodyOk h (lsCons (one_loop (t := (loopTr addr_Text_L4_S (loopN addr_Text_L4 FUEL))) (by kernel_rfl) addr_Text_L4_ok) lsNil)) _ _ _ (fun x => ?_)
 exact addr_Text_key zq34 strings_Join_t addr_longest_t zq3 (loopN addr_Text_L4 FUEL) x
noncomputable def prefix_Text_env : Env := mkEnv ty fnB [(65, addr_Text_con), (66, strconv_Itoa_con)] []
theorem prefix_Text_envOk : EnvOk Tryz.prog prefix_Text_env := envOk tyOk fn_ok (callsCons addr_Text_ok (callsCons strconv_Itoa_ok callsNil)) _
noncomputable def prefix_Text_con : Con := con [.one (.fl .pfx)] [.one (.fl .str)] (fun x => prefix_Text_t x.1)
theorem prefix_Text_ok : TrOk Tryz.prog 52 prefix_Text_con := by
 have h : loopsOf (codeOf Tryz.f52) = [] := by kernel_rfl
 refine con_ok prefix_Text_envOk Tryz.func52 (bodyOk h lsNil) _ _ _ (fun x => ?_)
 kernel_rfl
noncomputable def prefix_Print_env : Env := mkEnv ty fnB [(16, zq17), (52, prefix_Text_con)] []
theorem prefix_Print_envOk : EnvOk Tryz.prog prefix_Print_env := envOk tyOk fn_ok (callsCons zq19 (callsCons prefix_Text_ok callsNil)) _
noncomputable def prefix_Print_con : Con := con [.one (.fl .pfx)] [.one (.fl .str), .one (.fl .int)] (fun x => prefix_Print_t x.1)
theorem prefix_Print_ok : TrOk Tryz.prog 25 prefix_Print_con := by
 have h : loopsOf (codeOf Tryz.f25) = [] := by kernel_rfl
 refine con_ok prefix_Print_envOk Tryz.func25 (bodyOk h lsNil) _ _ _ (fun x => ?_)
 kernel_rfl
noncomputable def law_prefixBegun_env : Env := mkEnv ty fnB [(26, prefix_Parse_con), (29, law_net_con), (17, prefix_Has_con), (27, prefix_Ends_con), (24, prefix_Halves_con), (18, prefix_Whole_con), (25, prefix_Print_con), (16, zq17), (30, law_v4_con)] []
theorem law_prefixBegun_envOk : EnvOk Tryz.prog law_prefixBegun_env := envOk tyOk fn_ok (callsCons prefix_Parse_ok (callsCons law_net_ok (callsCons prefix_Has_ok (callsCons prefix_Ends_ok (callsCons prefix_Halves_ok (callsCons prefix_Whole_ok (callsCons prefix_Print_ok (callsCons zq19 (callsCons law_v4_ok callsNil))))))))) _
noncomputable def law_prefixBegun_con : Con := con [] [.one (.fl .bool)] (fun x => zq10)
theorem law_prefixBegun_ok : TrOk Tryz.prog 10 law_prefixBegun_con := by
 have h : loopsOf (codeOf Tryz.f10) = [] := by kernel_rfl
 refine con_ok law_prefixBegun_envOk Tryz.func10 (bodyOk h lsNil) _ _ _ (fun x => ?_)
 kernel_rfl
def law_SpanSame_L17_S : LoopS := { n := 156, base := 1, head := { keep := [0, 7, 16, 17], vals := [.one (.cst (.row 0)), .one (.cst (.row 1)), .one (.cst (.row 2)), .one (.fl .int)], objs := [.row .pfx 27 false, .row .pfx 27 true, .row .pfx 27 true] }, exits := [⟨some 0, { keep := [7, 16], vals := [.one (.cst (.row 1)), .one (.cst (.row 2))], objs := [.row .pfx 27 false, .row .pfx 27 true, .row .pfx 27 true] }⟩] }
noncomputable def law_SpanSame_env : Env := mkEnv ty fnB [(9, law_spanBegun_con), (10, law_prefixBegun_con), (11, span_Norm_con), (12, span_Minus_con), (13, span_Has_con), (14, R_HasAddr_con), (15, R_SamePrefixes_con)] [(17, (loopTr law_SpanSame_L17_S (loopN law_SpanSame_L17 FUEL)))]
theorem law_SpanSame_envOk : EnvOk Tryz.prog law_SpanSame_env := envOk tyOk fn_ok (callsCons law_spanBegun_ok (callsCons law_prefixBegun_ok (callsCons span_Norm_ok (callsCons span_Minus_ok (callsCons span_Has_ok (callsCons R_HasAddr_ok (callsCons R_SamePrefixes_ok callsNil))))))) _
theorem law_SpanSame_L17_ok : LOk Tryz.prog (nthLoop (codeOf Tryz.f3) 0) (loopTr law_SpanSame_L17_S (loopN law_SpanSame_L17 FUEL)) := by
 have h : loopsOf (nthLoop (codeOf Tryz.f3) 0) = [] := by kernel_rfl
 refine loop_ok law_SpanSame_envOk (loopsOk h lsNil) law_SpanSame_L17_S law_SpanSame_L17 FUEL (fun rec x => ?_)
 kernel_rfl
noncomputable def law_SpanSame_con : Con := con [.one (.row .pfx 27), .one (.fl .pfx), .one (.fl .addr)] [.one (.fl .bool)] (fun x => law_SpanSame_t x.1 x.2.1 x.2.2.1)
theorem law_SpanSame_ok : TrOk Tryz.prog 3 law_SpanSame_con := by
 have h : loopsOf (codeOf Tryz.f3) = [(nthLoop (codeOf Tryz.f3) 0)] := by kernel_rfl
 refine con_ok law_SpanSame_envOk Tryz.func3 (bodyOk h (lsCons (one_loop (t := (loopTr law_SpanSame_L17_S (loopN law_SpanSame_L17 FUEL))) (by kernel_rfl) law_SpanSame_L17_ok) lsNil)) _ _ _ (fun x => ?_)
 kernel_rfl
def law_SpanApart_L12_S : LoopS := { n := 127, base := 1, head := { keep := [0, 3, 5, 6], vals := [.one (.cst (.row 0)), .one (.cst (.row 1)), .one (.fl .int), .one (.fl .int)], objs := [.row .pfx 27 false, .row .pfx 27 true] }, exits := [⟨none, { keep := [2], vals := [.one (.fl .bool)], objs := [.row .pfx 27 false] }⟩, ⟨some 2, { keep := [0, 3, 5], vals := [.one (.cst (.row 0)), .one (.cst (.row 1)), .one (.fl .int)], objs := [.row .pfx 27 false, .row .pfx 27 true] }⟩] }
def law_SpanApart_L7_S : LoopS := { n := 127, base := 1, head := { keep := [0, 3, 5], vals := [.one (.cst (.row 0)), .one (.cst (.row 1)), .one (.fl .int)], objs := [.row .pfx 27 false, .row .pfx 27 true] }, exits := [⟨none, { keep := [2], vals := [.one (.fl .bool)], objs := [.row .pfx 27 false] }⟩, ⟨some 0, { keep := [0, 3], vals := [.one (.cst (.row 0)), .one (.cst (.row 1))], objs := [.row .pfx 27 false, .row .pfx 27 true] }⟩] }
noncomputable def law_SpanApart_env : Env := mkEnv ty fnB [(11, span_Norm_con), (9, law_spanBegun_con), (10, law_prefixBegun_con), (16, zq17), (17, prefix_Has_con), (18, prefix_Whole_con), (19, addr_Less_con)] [(12, (loopTr law_SpanApart_L12_S (loopN zq9 FUEL))), (7, (loopTr law_SpanApart_L7_S (loopN law_SpanApart_L7 FUEL)))]
theorem law_SpanApart_envOk : EnvOk Tryz.prog law_SpanApart_env := envOk tyOk fn_ok (callsCons span_Norm_ok (callsCons law_spanBegun_ok (callsCons law_prefixBegun_ok (callsCons zq19 (callsCons prefix_Has_ok (callsCons prefix_Whole_ok (callsCons addr_Less_ok callsNil))))))) _
theorem law_SpanApart_L12_ok : LOk Tryz.prog (nthLoop (nthLoop (codeOf Tryz.f4) 0) 0) (loopTr law_SpanApart_L12_S (loopN zq9 FUEL)) := by
 have h : loopsOf (nthLoop (nthLoop (codeOf Tryz.f4) 0) 0) = [] := by kernel_rfl
 refine loop_ok law_SpanApart_envOk (loopsOk h lsNil) law_SpanApart_L12_S zq9 FUEL (fun rec x => ?_)
 kernel_rfl
theorem law_SpanApart_L7_ok : LOk Tryz.prog (nthLoop (codeOf Tryz.f4) 0) (loopTr law_SpanApart_L7_S (loopN law_SpanApart_L7 FUEL)) := by
 have h : loopsOf (nthLoop (codeOf Tryz.f4) 0) = [(nthLoop (nthLoop (codeOf Tryz.f4) 0) 0)] := by kernel_rfl
 refine loop_ok law_SpanApart_envOk (loopsOk h (lsCons (one_loop (t := (loopTr law_SpanApart_L12_S (loopN zq9 FUEL))) (by kernel_rfl) law_SpanApart_L12_ok) lsNil)) law_SpanApart_L7_S law_SpanApart_L7 FUEL (fun rec x => ?_)
 kernel_rfl
noncomputable def law_SpanApart_con : Con := con [.one (.row .pfx 27)] [.one (.fl .bool)] (fun x => law_SpanApart_t x.1)
theorem law_SpanApart_ok : TrOk Tryz.prog 4 law_SpanApart_con := by
 have h : loopsOf (codeOf Tryz.f4) = [(nthLoop (codeOf Tryz.f4) 0)] := by kernel_rfl
 refine con_ok law_SpanApart_envOk Tryz.func4 (bodyOk h (lsCons (one_loop (t := (loopTr law_SpanApart_L7_S (loopN law_SpanApart_L7 FUEL))) (by kernel_rfl) law_SpanApart_L7_ok) lsNil)) _ _ _ (fun x => ?_)
 kernel_rfl
def law_SpanAdds_L9_S : LoopS := { n := 116, base := 1, head := { keep := [3, 5, 7, 9, 10], vals := [.one (.cst (.ptr 1 0)), .one (.cst (.row 2)), .one (.cst (.row 3)), .one (.fl .bool), .one (.fl .int)], objs := [.row .pfx 27 false, .blk [.fl .pfx] 27 true, .row .pfx 27 true, .row .pfx 27 true] }, exits := [⟨none, { keep := [4], vals := [.one (.fl .bool)], objs := [.row .pfx 27 false] }⟩, ⟨some 0, { keep := [3, 5, 7, 9], vals := [.one (.cst (.ptr 1 0)), .one (.cst (.row 2)), .one (.cst (.row 3)), .one (.fl .bool)], objs := [.row .pfx 27 false, .blk [.fl .pfx] 27 true, .row .pfx 27 true, .row .pfx 27 true] }⟩] }
def law_SpanAdds_L20_S : LoopS := { n := 116, base := 1, head := { keep := [5, 15], vals := [.one (.cst (.row 1)), .one (.fl .int)], objs := [.row .pfx 27 false, .row .pfx 27 true] }, exits := [⟨none, { keep := [4], vals := [.one (.fl .bool)], objs := [.row .pfx 27 false] }⟩, ⟨some 2, { keep := [], vals := [], objs := [.row .pfx 27 false] }⟩] }
noncomputable def law_SpanAdds_env : Env := mkEnv ty fnB [(9, law_spanBegun_con), (10, law_prefixBegun_con), (11, span_Norm_con), (12, span_Minus_con), (17, prefix_Has_con), (15, R_SamePrefixes_con)] [(9, (loopTr law_SpanAdds_L9_S (loopN law_SpanAdds_L9 FUEL))), (20, (loopTr law_SpanAdds_L20_S (loopN zq8 FUEL)))]
theorem law_SpanAdds_envOk : EnvOk Tryz.prog law_SpanAdds_env := envOk tyOk fn_ok (callsCons law_spanBegun_ok (callsCons law_prefixBegun_ok (callsCons span_Norm_ok (callsCons span_Minus_ok (callsCons prefix_Has_ok (callsCons R_SamePrefixes_ok callsNil)))))) _
theorem law_SpanAdds_L20_ok : LOk Tryz.prog (nthLoop (codeOf Tryz.f5) 1) (loopTr law_SpanAdds_L20_S (loopN zq8 FUEL)) := by
 have h : loopsOf (nthLoop (codeOf Tryz.f5) 1) = [] := by kernel_rfl
 refine loop_ok law_SpanAdds_envOk (loopsOk h lsNil) law_SpanAdds_L20_S zq8 FUEL (fun rec x => ?_)
 kernel_rfl
theorem law_SpanAdds_L9_ok : LOk Tryz.prog (nthLoop (codeOf Tryz.f5) 0) (loopTr law_SpanAdds_L9_S (loopN law_SpanAdds_L9 FUEL)) := by
 have h : loopsOf (nthLoop (codeOf Tryz.f5) 0) = [] := by kernel_rfl
 refine loop_ok law_SpanAdds_envOk (loopsOk h lsNil) law_SpanAdds_L9_S law_SpanAdds_L9 FUEL (fun rec x => ?_)
 kernel_rfl
noncomputable def law_SpanAdds_con : Con := con [.one (.row .pfx 27), .one (.fl .pfx)] [.one (.fl .bool)] (fun x => law_SpanAdds_t x.1 x.2.1)
theorem law_SpanAdds_ok : TrOk Tryz.prog 5 law_SpanAdds_con := by
 have h : loopsOf (codeOf Tryz.f5) = [(nthLoop (codeOf Tryz.f5) 0), (nthLoop (codeOf Tryz.f5) 1)] := by kernel_rfl
 refine con_ok law_SpanAdds_envOk Tryz.func5 (bodyOk h (lsCons (one_loop (t := (loopTr law_SpanAdds_L9_S (loopN law_SpanAdds_L9 FUEL))) (by kernel_rfl) law_SpanAdds_L9_ok) (lsCons (one_loop (t := (loopTr law_SpanAdds_L20_S (loopN zq8 FUEL))) (by kernel_rfl) law_SpanAdds_L20_ok) lsNil))) _ _ _ (fun x => ?_)
 kernel_rfl
def pick_left_L3_S : LoopS := { n := 21, base := 1, head := { keep := [5, 10, 11, 12], vals := [.one (.cst (.row 1)), .one (.cst (.row 0)), .one (.fl .int), .one (.fl .int)], objs := [.row .pfx 27 false, .row .pfx 27 true] }, exits := [⟨some 0, { keep := [5], vals := [.one (.cst (.row 1))], objs := [.row .pfx 27 false, .row .pfx 27 true] }⟩] }
noncomputable def pick_left_env : Env := mkEnv ty fnB [(33, span_Less_con)] [(3, (loopTr pick_left_L3_S (loopN pick_left_L3 FUEL)))]
theorem pick_left_envOk : EnvOk Tryz.prog pick_left_env := envOk tyOk fn_ok (callsCons span_Less_ok callsNil) _
theorem pick_left_L3_ok : LOk Tryz.prog (nthLoop (codeOf Tryz.f46) 0) (loopTr pick_left_L3_S (loopN pick_left_L3 FUEL)) := by
 have h : loopsOf (nthLoop (codeOf Tryz.f46) 0) = [] := by kernel_rfl
 refine loop_ok pick_left_envOk (loopsOk h lsNil) pick_left_L3_S pick_left_L3 FUEL (fun rec x => ?_)
 kernel_rfl
noncomputable def pick_left_con : Con := con [.one (.fl .pfx), .one (.row .pfx 27)] [.one (.row .pfx 27)] (fun x => pick_left_t x.1 x.2.1)
theorem pick_left_ok : TrOk Tryz.prog 46 pick_left_con := by
 have h : loopsOf (codeOf Tryz.f46) = [(nthLoop (codeOf Tryz.f46) 0)] := by kernel_rfl
 refine con_ok pick_left_envOk Tryz.func46 (bodyOk h (lsCons (one_loop (t := (loopTr pick_left_L3_S (loopN pick_left_L3 FUEL))) (by kernel_rfl) pick_left_L3_ok) lsNil)) _ _ _ (fun x => ?_)
 kernel_rfl
def zq13 : LoopS := { n := 19, base := 5, head := { keep := [0, 1, 7, 8], vals := [.one (.cst (.row 4)), .one (.cst (.fn 48 [.ptr 2 0])), .one (.fl .int), .one (.fl .int)], objs := [.row .pfx 27 false, .blk [.fl .pfx] 27 true, .blk [.fl .int] 3 true, .blk [.fl .pfx] 27 true, .row .pfx 27 true] }, exits := [⟨none, { keep := [4], vals := [.one (.fl .int)], objs := [.row .pfx 27 false, .blk [.fl .pfx] 27 true, .blk [.fl .int] 3 true, .blk [.fl .pfx] 27 true, .row .pfx 27 true] }⟩, ⟨some 0, { keep := [], vals := [], objs := [.row .pfx 27 false, .blk [.fl .pfx] 27 true, .blk [.fl .int] 3 true, .blk [.fl .pfx] 27 true, .row .pfx 27 true] }⟩] }
noncomputable def zq14 : Env := mkEnv ty fnB [(48, pick_First_1_con)] [(2, (loopTr zq13 (loopN zq12 FUEL)))]
theorem zq15 : EnvOk Tryz.prog zq14 := envOk tyOk fn_ok (callsCons pick_First_1_ok callsNil) _
theorem pick_First_slices_IndexFunc___api_Prefix_api_Prefix__L2_ok : LOk Tryz.prog (nthLoop (codeOf Tryz.f47) 0) (loopTr zq13 (loopN zq12 FUEL)) := by
 have h : loopsOf (nthLoop (codeOf Tryz.f47) 0) = [] := by kernel_rfl
 refine loop_ok zq15 (loopsOk h lsNil) zq13 zq12 FUEL (fun rec x => ?_)
 kernel_rfl
theorem pick_First_slices_IndexFunc___api_Prefix_api_Prefix__inl : TrOk Tryz.prog 47 (inlCon zq14 Tryz.f47) := by
 have h : loopsOf (codeOf Tryz.f47) = [(nthLoop (codeOf Tryz.f47) 0)] := by kernel_rfl
 exact inl_ok zq15 Tryz.func47 (bodyOk h (lsCons (one_loop (t := (loopTr zq13 (loopN zq12 FUEL))) (by kernel_rfl) pick_First_slices_IndexFunc___api_Prefix_api_Prefix__L2_ok) lsNil))
noncomputable def pick_First_env : Env := mkEnv ty fnB [(45, pick_ready_con), (39, prefix_Wide_con), (46, pick_left_con), (47, (inlCon zq14 Tryz.f47))] []
theorem pick_First_envOk : EnvOk Tryz.prog pick_First_env := envOk tyOk fn_ok (callsCons pick_ready_ok (callsCons prefix_Wide_ok (callsCons pick_left_ok (callsCons pick_First_slices_IndexFunc___api_Prefix_api_Prefix__inl callsNil)))) _
noncomputable def pick_First_con : Con := con [.one (.fl .pfx), .one (.row .pfx 27), .one (.fl .int)] [.one (.fl .pfx), .one (.fl .int)] (fun x => zq16 x.1 x.2.1 x.2.2.1)
theorem pick_First_ok : TrOk Tryz.prog 20 pick_First_con := by
 have h : loopsOf (codeOf Tryz.f20) = [] := by kernel_rfl
 refine con_ok pick_First_envOk Tryz.func20 (bodyOk h lsNil) _ _ _ (fun x => ?_)
 kernel_rfl
noncomputable def pick_Free_env : Env := mkEnv ty fnB [(45, pick_ready_con), (46, pick_left_con)] []
theorem pick_Free_envOk : EnvOk Tryz.prog pick_Free_env := envOk tyOk fn_ok (callsCons pick_ready_ok (callsCons pick_left_ok callsNil)) _
noncomputable def pick_Free_con : Con := con [.one (.fl .pfx), .one (.row .pfx 27)] [.one (.row .pfx 27), .one (.fl .int)] (fun x => pick_Free_t x.1 x.2.1)
theorem pick_Free_ok : TrOk Tryz.prog 23 pick_Free_con := by
 have h : loopsOf (codeOf Tryz.f23) = [] := by kernel_rfl
 refine con_ok pick_Free_envOk Tryz.func23 (bodyOk h lsNil) _ _ _ (fun x => ?_)
 kernel_rfl
noncomputable def law_pickBegun_env : Env := mkEnv ty fnB [(29, law_net_con), (23, pick_Free_con), (20, pick_First_con), (15, R_SamePrefixes_con)] []
theorem law_pickBegun_envOk : EnvOk Tryz.prog law_pickBegun_env := envOk tyOk fn_ok (callsCons law_net_ok (callsCons pick_Free_ok (callsCons pick_First_ok (callsCons R_SamePrefixes_ok callsNil)))) _
noncomputable def law_pickBegun_con : Con := con [] [.one (.fl .bool)] (fun x => law_pickBegun_t)
theorem law_pickBegun_ok : TrOk Tryz.prog 21 law_pickBegun_con := by
 have h : loopsOf (codeOf Tryz.f21) = [] := by kernel_rfl
 refine con_ok law_pickBegun_envOk Tryz.func21 (bodyOk h lsNil) _ _ _ (fun x => ?_)
 kernel_rfl
noncomputable def addr_Print_env : Env := mkEnv ty fnB [(34, addr_Check_con), (65, addr_Text_con)] []
theorem addr_Print_envOk : EnvOk Tryz.prog addr_Print_env := envOk tyOk fn_ok (callsCons addr_Check_ok (callsCons addr_Text_ok callsNil)) _
noncomputable def addr_Print_con : Con := con [.one (.fl .addr)] [.one (.fl .str), .one (.fl .int)] (fun x => addr_Print_t x.1)
theorem addr_Print_ok : TrOk Tryz.prog 50 addr_Print_con := by
 have h : loopsOf (codeOf Tryz.f50) = [] := by kernel_rfl
 refine con_ok addr_Print_envOk Tryz.func50 (bodyOk h lsNil) _ _ _ (fun x => ?_)
 kernel_rfl
noncomputable def law_addrBegun_env : Env := mkEnv ty fnB [(49, addr_Parse_con), (50, addr_Print_con), (28, addr_Next_con), (19, addr_Less_con), (30, law_v4_con)] []
theorem law_addrBegun_envOk : EnvOk Tryz.prog law_addrBegun_env := envOk tyOk fn_ok (callsCons addr_Parse_ok (callsCons addr_Print_ok (callsCons addr_Next_ok (callsCons addr_Less_ok (callsCons law_v4_ok callsNil))))) _
noncomputable def law_addrBegun_con : Con := con [] [.one (.fl .bool)] (fun x => law_addrBegun_t)
theorem law_addrBegun_ok : TrOk Tryz.prog 22 law_addrBegun_con := by
 have h : loopsOf (codeOf Tryz.f22) = [] := by kernel_rfl
 refine con_ok law_addrBegun_envOk Tryz.func22 (bodyOk h lsNil) _ _ _ (fun x => ?_)
 kernel_rfl
def law_PickClear_L10_S : LoopS := { n := 131, base := 1, head := { keep := [1, 2, 3, 7, 11], vals := [.one (.cst (.row 0)), .one (.fl .int), .one (.cst (.ptr 1 0)), .one (.cst (.ptr 2 0)), .one (.fl .int)], objs := [.row .pfx 27 false, .blk [.fl .pfx] 27 true, .blk [.fl .pfx] 27 true] }, exits := [⟨none, { keep := [6], vals := [.one (.fl .bool)], objs := [.row .pfx 27 false] }⟩, ⟨some 0, { keep := [1, 2, 3, 7], vals := [.one (.cst (.row 0)), .one (.fl .int), .one (.cst (.ptr 1 0)), .one (.cst (.ptr 2 0))], objs := [.row .pfx 27 false, .blk [.fl .pfx] 27 true, .blk [.fl .pfx] 27 true] }⟩] }
noncomputable def law_PickClear_env : Env := mkEnv ty fnB [(20, pick_First_con), (21, law_pickBegun_con), (10, law_prefixBegun_con), (22, law_addrBegun_con), (17, prefix_Has_con), (16, zq17), (19, addr_Less_con)] [(10, (loopTr law_PickClear_L10_S (loopN zq7 FUEL)))]
theorem law_PickClear_envOk : EnvOk Tryz.prog law_PickClear_env := envOk tyOk fn_ok (callsCons pick_First_ok (callsCons law_pickBegun_ok (callsCons law_prefixBegun_ok (callsCons law_addrBegun_ok (callsCons prefix_Has_ok (callsCons zq19 (callsCons addr_Less_ok callsNil))))))) _
theorem law_PickClear_L10_ok : LOk Tryz.prog (nthLoop (codeOf Tryz.f6) 0) (loopTr law_PickClear_L10_S (loopN zq7 FUEL)) := by
 have h : loopsOf (nthLoop (codeOf Tryz.f6) 0) = [] := by kernel_rfl
 refine loop_ok law_PickClear_envOk (loopsOk h lsNil) law_PickClear_L10_S zq7 FUEL (fun rec x => ?_)
 kernel_rfl
noncomputable def law_PickClear_con : Con := con [.one (.fl .pfx), .one (.row .pfx 27), .one (.fl .int)] [.one (.fl .bool)] (fun x => law_PickClear_t x.1 x.2.1 x.2.2.1)
theorem law_PickClear_ok : TrOk Tryz.prog 6 law_PickClear_con := by
 have h : loopsOf (codeOf Tryz.f6) = [(nthLoop (codeOf Tryz.f6) 0)] := by kernel_rfl
 refine con_ok law_PickClear_envOk Tryz.func6 (bodyOk h (lsCons (one_loop (t := (loopTr law_PickClear_L10_S (loopN zq7 FUEL))) (by kernel_rfl) law_PickClear_L10_ok) lsNil)) _ _ _ (fun x => ?_)
 kernel_rfl
noncomputable def law_PickAll_env : Env := mkEnv ty fnB [(21, law_pickBegun_con), (10, law_prefixBegun_con), (23, pick_Free_con), (20, pick_First_con), (17, prefix_Has_con)] []
theorem law_PickAll_envOk : EnvOk Tryz.prog law_PickAll_env := envOk tyOk fn_ok (callsCons law_pickBegun_ok (callsCons law_prefixBegun_ok (callsCons pick_Free_ok (callsCons pick_First_ok (callsCons prefix_Has_ok callsNil))))) _
noncomputable def law_PickAll_con : Con := con [.one (.fl .pfx), .one (.fl .pfx), .one (.fl .int)] [.one (.fl .bool)] (fun x => law_PickAll_t x.1 x.2.1 x.2.2.1)
theorem law_PickAll_ok : TrOk Tryz.prog 7 law_PickAll_con := by
 have h : loopsOf (codeOf Tryz.f7) = [] := by kernel_rfl
 refine con_ok law_PickAll_envOk Tryz.func7 (bodyOk h lsNil) _ _ _ (fun x => ?_)
 kernel_rfl
noncomputable def law_PrefixHalves_env : Env := mkEnv ty fnB [(24, prefix_Halves_con), (10, law_prefixBegun_con), (22, law_addrBegun_con), (25, prefix_Print_con), (26, prefix_Parse_con), (18, prefix_Whole_con), (27, prefix_Ends_con), (28, addr_Next_con)] []
theorem law_PrefixHalves_envOk : EnvOk Tryz.prog law_PrefixHalves_env := envOk tyOk fn_ok (callsCons prefix_Halves_ok (callsCons law_prefixBegun_ok (callsCons law_addrBegun_ok (callsCons prefix_Print_ok (callsCons prefix_Parse_ok (callsCons prefix_Whole_ok (callsCons prefix_Ends_ok (callsCons addr_Next_ok callsNil)))))))) _
noncomputable def law_PrefixHalves_con : Con := con [.one (.fl .pfx)] [.one (.fl .bool)] (fun x => law_PrefixHalves_t x.1)
theorem law_PrefixHalves_ok : TrOk Tryz.prog 8 law_PrefixHalves_con := by
 have h : loopsOf (codeOf Tryz.f8) = [] := by kernel_rfl
 refine con_ok law_PrefixHalves_envOk Tryz.func8 (bodyOk h lsNil) _ _ _ (fun x => ?_)
 kernel_rfl
end Go.Proofs.YtfkfpgoicmfpkaaGreatDoor
namespace Go.Ma
open Go
theorem laidVars_reads {P : Program} {w : World} : ∀ {l : List (String × DataW Unit)} {ps : List MemPlace}, DataW.LaidVars P w l ps → ∀ n d, (n, d) ∈ l → ∃ g t cs fuel p, P.globalNamed n = some g ∧ (P.globals[g]?).map (·.type) = some t ∧ w.var? P n = some cs ∧ DataW.trod (fun _ => ()) P w 0 (fun _ => true) false fuel t cs.toList = some (d, p)
 | [], _, _, _, _, hm => by cases hm
 | (n', d') :: r, ps, h, n, d, hm => by
  obtain ⟨g, t, cs, fuel, p, q, h1, h2, h3, h4, h5, _⟩ := h
  rcases List.mem_cons.1 hm with e | e
  ·cases e
   exact ⟨g, t, cs, fuel, p, h1, h2, h3, h4⟩
  ·exact laidVars_reads h5 n d e
theorem heap_of_var {P : Program} {w : World} {n : String} {g : Nat} {cs : Array Value} (hg : P.globalNamed n = some g) (h : w.var? P n = some cs) : ∃ t z, w.heap[g]? = some (.cells cs t z) := by
 unfold World.var? at h
 rw [hg, Option.bind_some] at h
 split at h
 ·rename_i c t z hh
  injection h with h
  exact ⟨t, z, by rw [hh, h]⟩
 ·cases h
def numB (P : Program) (n : String) : Bool := match P.globalNamed n with
 | none => true
 | some g => match ((begin P (fun _ _ => 0) default).world.heap[g]?).bind Obj.row? with
  | some (zero, t) => decide (g < P.globals.size) && zero.size == 1 && P.buildable t && (match P.cellTypes P.depth t with | some [u] => u == t | _ => false) && (match P.underlying t with | some (.int k) => (match k with | .i64 => true | _ => false) | _ => false)
  | none => false
theorem num_of_B {P : Program} {w : World} (hS : w.ShapedOpen P) {n : String} (h : numB P n = true) {g : Nat} (hg : P.globalNamed n = some g) : ∃ m, w.cell? ⟨g, 0, none⟩ = some (.int .i64 m) := by
 unfold numB at h
 rw [hg] at h
 simp only at h
 split at h
 ·rename_i zero t hz
  simp only [Bool.and_eq_true, decide_eq_true_eq, beq_iff_eq] at h
  obtain ⟨⟨⟨⟨h1, h2⟩, h3⟩, h4⟩, h5⟩ := h
  split at h4
  ·rename_i u hu
   have h4 := eq_of_beq h4
   subst h4
   split at h5
   ·rename_i k hk
    split at h5
    ·exact Go.Proofs.cell_of_shapedOpen_int hS h1 hz h2 h3 hu hk
    ·cases h5
   ·cases h5
  ·cases h4
 ·cases h
def errB (P : Program) (laid : List (String × DataW Unit)) (n : String) : Bool := match P.globalNamed n with
 | none => true
 | some g => (laid.any fun x => x.1 == n && (match x.2 with | .iface _ (.ptr _) => true | _ => false)) && (match (P.globals[g]?).map (·.type) with | some t => (match P.underlying t with | some (.interface _) => true | _ => false) | none => false)
theorem err_of_B {P : Program} {w : World} {laid : List (String × DataW Unit)} (hL : laidMet P laid w) {n : String} (h : errB P laid n = true) {g : Nat} (hg : P.globalNamed n = some g) : ∃ ev, w.cell? ⟨g, 0, none⟩ = some ev ∧ (ev = .nilIface ∨ ∃ te pe, ev = .iface te pe) := by
 unfold errB at h
 rw [hg] at h
 simp only [Bool.and_eq_true, List.any_eq_true, beq_iff_eq] at h
 obtain ⟨⟨⟨n', d⟩, hm, rfl, hd⟩, ht⟩ := h
 obtain ⟨ps, hv, _⟩ := hL
 obtain ⟨g', t, cs, fuel, p, h1, h2, h3, h4⟩ := laidVars_reads hv _ _ hm
 obtain rfl := Option.some.inj (hg.symm.trans h1)
 rw [h2] at ht
 simp only at ht
 split at ht
 ·rename_i ms hi
  simp only at hd
  split at hd
  ·obtain ⟨f1, u, v, hcs, _⟩ := iface_of_trod hi h4
   obtain ⟨t', z, hh⟩ := heap_of_var h1 h3
   refine ⟨.iface u v, ?_, .inr ⟨_, _, rfl⟩⟩
   obtain ⟨l⟩ := cs
   simp only at hcs
   subst hcs
   simp [World.cell?, hh]
  ·cases hd
 ·cases ht
def tabGo (k : IntKind) : List (DataW Unit) → List Int → Bool
 | [], [] => true
 | .lit (.int k' z') :: l, z :: zs => decide (k' = k) && decide (z' = z) && tabGo k l zs
 | _, _ => false
theorem tabGo_eq (k : IntKind) : ∀ (l : List (DataW Unit)) (zs : List Int), tabGo k l zs = true → l = zs.map fun z => .lit (.int k z)
 | [], [], _ => rfl
 | [], _ :: _, h => by simp [tabGo] at h
 | d :: l, [], h => by cases d with
  | lit x => cases x <;> simp [tabGo] at h
  | _ => simp [tabGo] at h
 | d :: l, z :: zs, h => by
  cases d with
  | lit x => cases x with
   | int k' z' =>
    simp only [tabGo, Bool.and_eq_true, decide_eq_true_eq] at h
    obtain ⟨⟨rfl, rfl⟩, h⟩ := h
    rw [tabGo_eq _ l zs h]
    rfl
   | _ => simp [tabGo] at h
  | _ => simp [tabGo] at h
def tabB (P : Program) (laid : List (String × DataW Unit)) (n : String) (k : IntKind) (zs : List Int) : Bool := match P.globalNamed n with
 | none => true
 | some g => (laid.any fun x => x.1 == n && (match x.2 with | .agg l => tabGo k l zs | _ => false)) && (match (P.globals[g]?).map (·.type) with | some t => (match P.underlying t with | some (.array m e) => decide (P.cellsOf t = m) && decide (P.cellsOf e = 1) && (match P.underlying e with | some (.int k') => decide (k' = k) | _ => false) | _ => false) | none => false)
theorem tab_of_B {P : Program} {w : World} {laid : List (String × DataW Unit)} (hL : laidMet P laid w) {n : String} {k : IntKind} {zs : List Int} (h : tabB P laid n k zs = true) {g : Nat} (hg : P.globalNamed n = some g) : ∃ t z, w.heap[g]? = some (.cells (zs.map (Value.int k)).toArray t z) := by
 unfold tabB at h
 rw [hg] at h
 simp only [Bool.and_eq_true, List.any_eq_true, beq_iff_eq] at h
 obtain ⟨⟨⟨n', d⟩, hm, rfl, hd⟩, ht⟩ := h
 obtain ⟨ps, hv, _⟩ := hL
 obtain ⟨g', t, cs, fuel, p, h1, h2, h3, h4⟩ := laidVars_reads hv _ _ hm
 obtain rfl := Option.some.inj (hg.symm.trans h1)
 rw [h2] at ht
 simp only at ht
 split at ht
 ·rename_i m e hu
  simp only [Bool.and_eq_true, decide_eq_true_eq] at ht
  obtain ⟨⟨hc, he⟩, hk⟩ := ht
  split at hk
  ·rename_i k' hk'
   have hk := of_decide_eq_true hk
   subst hk
   simp only at hd
   split at hd
   ·rename_i l
    have := tabGo_eq _ _ _ hd
    subst this
    have := Lib.cells_of_tab hu hk' he hc h4
    obtain ⟨t', z, hh⟩ := heap_of_var h1 h3
    exact ⟨t', z, by rw [hh]; congr 1; rw [← this]⟩
   ·cases hd
  ·cases hk
 ·cases ht
def globB (P : Program) (laid : List (String × DataW Unit)) : Bool := numB P "internal/bytealg.MaxLen" && errB P laid "strconv.ErrSyntax" && errB P laid "strconv.ErrRange" && tabB P laid "internal/strconv.uint64pow10" .u64 pow10s && tabB P laid "math/bits.deBruijn64tab" .u8 places64
theorem Glob.of_B {P : Program} {w : World} {laid : List (String × DataW Unit)} (hS : w.ShapedOpen P) (hL : laidMet P laid w) (h : globB P laid = true) : Glob P w := by
 simp only [globB, Bool.and_eq_true] at h
 obtain ⟨⟨⟨⟨h1, h2⟩, h3⟩, h4⟩, h5⟩ := h
 refine ⟨fun g hg => num_of_B hS h1 hg, fun n g hn hg => ?_, fun g hg => tab_of_B hL h4 hg, fun g hg => tab_of_B hL h5 hg⟩
 rcases hn with rfl | rfl
 ·exact err_of_B hL h2 hg
 ·exact err_of_B hL h3 hg
end Go.Ma
namespace Go.Proofs.YtfkfpgoicmfpkaaGreatDoor.spanSame
open Go Go.Ma Go.ChangeShapes Go.WideShapes Go.ChangeAt Go.RowKit
set_option linter.unusedVariables false
theorem own : ownKnob Tryz.prog.godebug = none := by kernel_rfl
theorem laidOut : laidOutB Tryz.prog = true := by kernel_rfl
theorem plainly : ∀ x, PsIn [.one (.row .pfx 27), .one (.fl .pfx), .one (.fl .addr)] x → (fun x => law_SpanSame_t x.1 x.2.1 x.2.2.1) x = some ((true : Bool), ()) := fun x hx => SpanSame_eq hx.1.2 hx.2.1 hx.2.2.1
set_option maxRecDepth 100000 in
/-- What the walk gives. -/
theorem contract (H : Type) (enc : TypeId × Value → H) (W : World) (base : Nat) (args : Array Value) (ds gs : List (DataW H)) (before : List MemPlace)
  (hval : ∀ (j : Nat) t v, Tryz.f3.params[j]? = some t → args[j]? = some v → Value.okWide Tryz.prog W .any base t v)
  (hW : DataW.Whole enc Tryz.prog Tryz.f3.params.toList Rows.spanSameSpec.vars false W args.toList ds gs before) (hG : Glob Tryz.prog W) :
  Calls Tryz.prog 3 args W fun e W' => ∃ v, e = .returned v ∧ Rows.spanSameSpec.post enc Tryz.prog Tryz.f3 false true false false W args v W' := by
 have hW' := hW
 obtain ⟨p, q, hA0, hV, rfl, hfz, hnd⟩ := hW
 have hA : DataW.TrodAll enc Tryz.prog W 0 (fun _ => true) true Tryz.f3.params.toList args.toList ds p := hA0
 rw [Tryz.params3] at hA hval
 have hA2 := hA
 obtain ⟨v0, vs0, d0, ds0, p0, q0, hargs, rfl, rfl, h0, r0⟩ := trodAll_cons hA
 obtain ⟨v1, vs1, d1, ds1, p1, q1, rfl, rfl, rfl, h1, r1⟩ := trodAll_cons r0
 obtain ⟨v2, vs2, d2, ds2, p2, q2, rfl, rfl, rfl, h2, r2⟩ := trodAll_cons r1
 obtain ⟨rfl, rfl, rfl⟩ := trodAll_nil r2
 obtain rfl : args = #[v0, v1, v2] := by cases args; simp_all
 obtain ⟨rfl, rfl⟩ := trodVars_none hV
 have call := law_calls (enc := enc) hG law_SpanSame_ok plainly (fun x => rfl) (fun x => rfl) (ts := [22, 27, 25]) (vs := [v0, v1, v2]) (by kernel_rfl) (fun j t v h1 h2 => hval j t v (by simpa using h1) (by simpa using h2)) hA2
 refine call.mono fun e W' ⟨he, bel⟩ => ?_
 subst he
 exact ⟨_, rfl, _, _, _, [], _, [], hW', trodAll_mk1 (shut_bool Tryz.underlying4 _), all_back laidOut bel _ _ _ _ (by kernel_rfl) hA2, rfl, bel.frame _, fun h => by cases h⟩
mutual
def flat : DataW Unit → List Value
 | .lit (.int k x) => [.int k x]
 | .agg l => flats l
 | _ => []
def flats : List (DataW Unit) → List Value
 | [] => []
 | d :: r => flat d ++ flats r
end
noncomputable def low : Nat := (World.holding Tryz.prog default ⟨#[], #[], []⟩).heap.size
noncomputable def laidWorld (os : Os) : World :=
 let w0 := World.holding Tryz.prog os ⟨#[.cells #[.string ⟨#[118, 97, 108, 117, 101, 32, 111, 117, 116, 32, 111, 102, 32, 114, 97, 110, 103, 101]⟩] 187, .cells #[.string ⟨#[105, 110, 118, 97, 108, 105, 100, 32, 115, 121, 110, 116, 97, 120]⟩] 187], #[], []⟩
 {w0 with heap := (((((((w0.heap.modify 4 fun | .cells _ t frozen => .cells (flat Rows.laid_math_bits_deBruijn32tab).toArray t frozen | o => o).modify 5 fun | .cells _ t frozen => .cells (flat Rows.laid_math_bits_deBruijn64tab).toArray t frozen | o => o).modify 3 fun | .cells _ t frozen => .cells (flat Rows.laid_internal_strconv_uint64pow10).toArray t frozen | o => o).modify 7 fun | .cells _ t frozen => .cells (flat Rows.laid_unicode_utf8_acceptRanges).toArray t frozen | o => o).modify 2 fun | .cells _ t frozen => .cells #[.iface 185 (.pointer (some ⟨low + 0, 0, none⟩))] t frozen | o => o).modify 1 fun | .cells _ t frozen => .cells #[.iface 185 (.pointer (some ⟨low + 1, 0, none⟩))] t frozen | o => o).modify 6 fun | .cells _ t frozen => .cells (flat Rows.laid_unicode_utf8_first).toArray t frozen | o => o) }
theorem laid_met (os : Os) (args : Array Value) : laidMet Tryz.prog Rows.spanSameRow.laid ((laidWorld os).forCall (fun _ _ => 0) ⟨#[], args, []⟩).memory :=
 laidMet_of_run' 8 (by kernel_rfl) (by kernel_rfl)
theorem reads (os : Os) {H : Type} (enc : TypeId × Value → H) : ∃ places, DataW.whole enc Tryz.prog ((laidWorld os).forCall (fun _ _ => 0) ⟨#[], #[.slice none 0 0, .agg #[.bool false, .int .u64 0, .int .u64 0, .int .i64 0], .agg #[.bool false, .int .u64 0, .int .u64 0]], []⟩).memory Tryz.f3.params.toList Rows.spanSameSpec.vars false (#[.slice none 0 0, .agg #[.bool false, .int .u64 0, .int .u64 0, .int .i64 0], .agg #[.bool false, .int .u64 0, .int .u64 0]] : Array Value).toList 8 = some ([.nil, .agg [.agg [.lit (.bool false), .lit (.int .u64 0), .lit (.int .u64 0)], .lit (.int .i64 0)], .agg [.lit (.bool false), .lit (.int .u64 0), .lit (.int .u64 0)]], [], places) :=
 ⟨[], by kernel_rfl⟩
set_option maxRecDepth 100000 in
theorem lifted (os : Os) (started : os.Started) (H : Type) (enc : TypeId × Value → H) (F : Stop.Interp) :
  ReturnsInHanded {} Tryz.checked os 3 .any ((OpenSpec.ofChange Rows.spanSameSpec).preRow enc Tryz.prog Tryz.f3 Rows.spanSameRow.domain false Rows.spanSameRow.laid) (((OpenSpec.ofChange Rows.spanSameSpec).at F).post enc Tryz.prog Tryz.f3 false true false false) := by
 obtain ⟨places, hx⟩ := reads os enc
 refine returnsInHanded_of_row (C := Tryz.checked) (s := OpenSpec.ofChange Rows.spanSameSpec) own started (by kernel_rfl) Tryz.func3
  (witness_row_at (enc := enc) (C := Tryz.checked) false (laidWorld os) #[.slice none 0 0, .agg #[.bool false, .int .u64 0, .int .u64 0, .int .i64 0], .agg #[.bool false, .int .u64 0, .int .u64 0]] rfl (by kernel_rfl) (by kernel_rfl) (by kernel_rfl)
   (OpenSpec.preRow_of_cond 8 hx (by kernel_rfl) (fun k hk => by cases hk) (by kernel_rfl) (laid_met os _))) ?_
 intro W base args ds gs before hval hW _ hcond _ hL hS _
 have hL2 : laidMet Tryz.prog Rows.spanSameRow.laid W := by rw [← MakeChecks.laidMetH_plain _ _ _ (by kernel_rfl)]; exact hL
 exact contract H enc W base args ds gs before hval hW (Glob.of_B hS hL2 (by kernel_rfl))
theorem said : Rows.SpanSameSaid :=
 OpenClaim.holds_of_cond 3 Tryz.f3 rfl rfl rfl rfl rfl rfl rfl ⟨rfl, rfl, rfl, rfl, rfl⟩ rfl rfl rfl rfl rfl (by kernel_rfl) Tryz.func3 (by kernel_rfl)
  (of_decide_eq_true (by kernel_rfl)) (by unfold Func.isWrapper; first | (rw [if_pos (by decide +kernel)]; kernel_rfl) | (rw [if_neg (by decide +kernel)]; exact ⟨rfl, rfl⟩))
  (fun os started H enc _ F => by rw [OpenClaim.pre_eq_preRow]; exact lifted os started H enc F)
theorem plain (f : FuncId) (fn : Func) (hf : Tryz.pinned.checked.prog.funcNamed "yardarm/yardarmlaw.SpanSame" = some f) (hfn : Tryz.pinned.checked.prog.funcs[f]? = some fn) :
  true = Tryz.pinned.checked.prog.looks [] ∧ ∀ (j : Nat) t, fn.params[j]? = some t → Tryz.pinned.checked.prog.wantsStandIn t = false := by
 obtain rfl : f = 3 := Option.some.inj ((show Tryz.prog.funcNamed "yardarm/yardarmlaw.SpanSame" = some 3 by kernel_rfl).symm.trans hf) |>.symm
 obtain rfl : fn = Tryz.f3 := (Option.some.inj (Tryz.func3.symm.trans hfn)).symm
 refine ⟨by kernel_rfl, fun j t ht => ?_⟩
 rw [Tryz.params3] at ht
 have hm := Array.mem_of_getElem? ht
 have hm2 : t = 22 ∨ t = 27 ∨ t = 25 := by simpa using hm
 rcases hm2 with rfl | rfl | rfl
 ·exact (show Tryz.prog.wantsStandIn 22 = false by kernel_rfl)
 ·exact (show Tryz.prog.wantsStandIn 27 = false by kernel_rfl)
 ·exact (show Tryz.prog.wantsStandIn 25 = false by kernel_rfl)
theorem card : Rows.SpanSameCardSaid :=
 Claim7.holds_tied_plain_at .later [] _ _ _ _ said (fun _ h => by cases h) (by kernel_rfl) (fun _ h => by cases h) spanSame_row_tie rfl ⟨rfl, rfl⟩ (by kernel_rfl) rfl plain (by kernel_rfl)
end Go.Proofs.YtfkfpgoicmfpkaaGreatDoor.spanSame
namespace Go.Proofs.YtfkfpgoicmfpkaaGreatDoor
theorem spanSame_said : Rows.SpanSameCardSaid := spanSame.card
end Go.Proofs.YtfkfpgoicmfpkaaGreatDoor
namespace Go.Proofs.YtfkfpgoicmfpkaaGreatDoor.spanApart
open Go Go.Ma Go.ChangeShapes Go.WideShapes Go.ChangeAt Go.RowKit
set_option linter.unusedVariables false
theorem own : ownKnob Tryz.prog.godebug = none := by kernel_rfl
theorem laidOut : laidOutB Tryz.prog = true := by kernel_rfl
theorem plainly : ∀ x, PsIn [.one (.row .pfx 27)] x → (fun x => law_SpanApart_t x.1) x = some ((true : Bool), ()) := fun x hx => SpanApart_eq hx.1.2
set_option maxRecDepth 100000 in
/-- What the walk gives. -/
theorem contract (H : Type) (enc : TypeId × Value → H) (W : World) (base : Nat) (args : Array Value) (ds gs : List (DataW H)) (before : List MemPlace)
  (hval : ∀ (j : Nat) t v, Tryz.f4.params[j]? = some t → args[j]? = some v → Value.okWide Tryz.prog W .any base t v)
  (hW : DataW.Whole enc Tryz.prog Tryz.f4.params.toList Rows.spanApartSpec.vars false W args.toList ds gs before) (hG : Glob Tryz.prog W) :
  Calls Tryz.prog 4 args W fun e W' => ∃ v, e = .returned v ∧ Rows.spanApartSpec.post enc Tryz.prog Tryz.f4 false true false false W args v W' := by
 have hW' := hW
 obtain ⟨p, q, hA0, hV, rfl, hfz, hnd⟩ := hW
 have hA : DataW.TrodAll enc Tryz.prog W 0 (fun _ => true) true Tryz.f4.params.toList args.toList ds p := hA0
 rw [Tryz.params4] at hA hval
 have hA2 := hA
 obtain ⟨v0, vs0, d0, ds0, p0, q0, hargs, rfl, rfl, h0, r0⟩ := trodAll_cons hA
 obtain ⟨rfl, rfl, rfl⟩ := trodAll_nil r0
 obtain rfl : args = #[v0] := by cases args; simp_all
 obtain ⟨rfl, rfl⟩ := trodVars_none hV
 have call := law_calls (enc := enc) hG law_SpanApart_ok plainly (fun x => rfl) (fun x => rfl) (ts := [22]) (vs := [v0]) (by kernel_rfl) (fun j t v h1 h2 => hval j t v (by simpa using h1) (by simpa using h2)) hA2
 refine call.mono fun e W' ⟨he, bel⟩ => ?_
 subst he
 exact ⟨_, rfl, _, _, _, [], _, [], hW', trodAll_mk1 (shut_bool Tryz.underlying4 _), all_back laidOut bel _ _ _ _ (by kernel_rfl) hA2, rfl, bel.frame _, fun h => by cases h⟩
mutual
def flat : DataW Unit → List Value
 | .lit (.int k x) => [.int k x]
 | .agg l => flats l
 | _ => []
def flats : List (DataW Unit) → List Value
 | [] => []
 | d :: r => flat d ++ flats r
end
noncomputable def low : Nat := (World.holding Tryz.prog default ⟨#[], #[], []⟩).heap.size
noncomputable def laidWorld (os : Os) : World :=
 let w0 := World.holding Tryz.prog os ⟨#[.cells #[.string ⟨#[118, 97, 108, 117, 101, 32, 111, 117, 116, 32, 111, 102, 32, 114, 97, 110, 103, 101]⟩] 187, .cells #[.string ⟨#[105, 110, 118, 97, 108, 105, 100, 32, 115, 121, 110, 116, 97, 120]⟩] 187], #[], []⟩
 {w0 with heap := (((((((w0.heap.modify 4 fun | .cells _ t frozen => .cells (flat Rows.laid_math_bits_deBruijn32tab).toArray t frozen | o => o).modify 5 fun | .cells _ t frozen => .cells (flat Rows.laid_math_bits_deBruijn64tab).toArray t frozen | o => o).modify 3 fun | .cells _ t frozen => .cells (flat Rows.laid_internal_strconv_uint64pow10).toArray t frozen | o => o).modify 7 fun | .cells _ t frozen => .cells (flat Rows.laid_unicode_utf8_acceptRanges).toArray t frozen | o => o).modify 2 fun | .cells _ t frozen => .cells #[.iface 185 (.pointer (some ⟨low + 0, 0, none⟩))] t frozen | o => o).modify 1 fun | .cells _ t frozen => .cells #[.iface 185 (.pointer (some ⟨low + 1, 0, none⟩))] t frozen | o => o).modify 6 fun | .cells _ t frozen => .cells (flat Rows.laid_unicode_utf8_first).toArray t frozen | o => o) }
theorem laid_met (os : Os) (args : Array Value) : laidMet Tryz.prog Rows.spanApartRow.laid ((laidWorld os).forCall (fun _ _ => 0) ⟨#[], args, []⟩).memory :=
 laidMet_of_run' 8 (by kernel_rfl) (by kernel_rfl)
theorem reads (os : Os) {H : Type} (enc : TypeId × Value → H) : ∃ places, DataW.whole enc Tryz.prog ((laidWorld os).forCall (fun _ _ => 0) ⟨#[], #[.slice none 0 0], []⟩).memory Tryz.f4.params.toList Rows.spanApartSpec.vars false (#[.slice none 0 0] : Array Value).toList 8 = some ([.nil], [], places) :=
 ⟨[], by kernel_rfl⟩
set_option maxRecDepth 100000 in
theorem lifted (os : Os) (started : os.Started) (H : Type) (enc : TypeId × Value → H) (F : Stop.Interp) :
  ReturnsInHanded {} Tryz.checked os 4 .any ((OpenSpec.ofChange Rows.spanApartSpec).preRow enc Tryz.prog Tryz.f4 Rows.spanApartRow.domain false Rows.spanApartRow.laid) (((OpenSpec.ofChange Rows.spanApartSpec).at F).post enc Tryz.prog Tryz.f4 false true false false) := by
 obtain ⟨places, hx⟩ := reads os enc
 refine returnsInHanded_of_row (C := Tryz.checked) (s := OpenSpec.ofChange Rows.spanApartSpec) own started (by kernel_rfl) Tryz.func4
  (witness_row_at (enc := enc) (C := Tryz.checked) false (laidWorld os) #[.slice none 0 0] rfl (by kernel_rfl) (by kernel_rfl) (by kernel_rfl)
   (OpenSpec.preRow_of_cond 8 hx (by kernel_rfl) (fun k hk => by cases hk) (by kernel_rfl) (laid_met os _))) ?_
 intro W base args ds gs before hval hW _ hcond _ hL hS _
 have hL2 : laidMet Tryz.prog Rows.spanApartRow.laid W := by rw [← MakeChecks.laidMetH_plain _ _ _ (by kernel_rfl)]; exact hL
 exact contract H enc W base args ds gs before hval hW (Glob.of_B hS hL2 (by kernel_rfl))
theorem said : Rows.SpanApartSaid :=
 OpenClaim.holds_of_cond 4 Tryz.f4 rfl rfl rfl rfl rfl rfl rfl ⟨rfl, rfl, rfl, rfl, rfl⟩ rfl rfl rfl rfl rfl (by kernel_rfl) Tryz.func4 (by kernel_rfl)
  (of_decide_eq_true (by kernel_rfl)) (by unfold Func.isWrapper; first | (rw [if_pos (by decide +kernel)]; kernel_rfl) | (rw [if_neg (by decide +kernel)]; exact ⟨rfl, rfl⟩))
  (fun os started H enc _ F => by rw [OpenClaim.pre_eq_preRow]; exact lifted os started H enc F)
theorem plain (f : FuncId) (fn : Func) (hf : Tryz.pinned.checked.prog.funcNamed "yardarm/yardarmlaw.SpanApart" = some f) (hfn : Tryz.pinned.checked.prog.funcs[f]? = some fn) :
  true = Tryz.pinned.checked.prog.looks [] ∧ ∀ (j : Nat) t, fn.params[j]? = some t → Tryz.pinned.checked.prog.wantsStandIn t = false := by
 obtain rfl : f = 4 := Option.some.inj ((show Tryz.prog.funcNamed "yardarm/yardarmlaw.SpanApart" = some 4 by kernel_rfl).symm.trans hf) |>.symm
 obtain rfl : fn = Tryz.f4 := (Option.some.inj (Tryz.func4.symm.trans hfn)).symm
 refine ⟨by kernel_rfl, fun j t ht => ?_⟩
 rw [Tryz.params4] at ht
 have hm := Array.mem_of_getElem? ht
 have hm2 : t = 22 := by simpa using hm
 rcases hm2 with rfl
 exact (show Tryz.prog.wantsStandIn 22 = false by kernel_rfl)
theorem card : Rows.SpanApartCardSaid :=
 Claim7.holds_tied_plain_at .later [] _ _ _ _ said (fun _ h => by cases h) (by kernel_rfl) (fun _ h => by cases h) spanApart_row_tie rfl ⟨rfl, rfl⟩ (by kernel_rfl) rfl plain (by kernel_rfl)
end Go.Proofs.YtfkfpgoicmfpkaaGreatDoor.spanApart
namespace Go.Proofs.YtfkfpgoicmfpkaaGreatDoor
theorem spanApart_said : Rows.SpanApartCardSaid := spanApart.card
end Go.Proofs.YtfkfpgoicmfpkaaGreatDoor
namespace Go.Proofs.YtfkfpgoicmfpkaaGreatDoor.spanAdds
open Go Go.Ma Go.ChangeShapes Go.WideShapes Go.ChangeAt Go.RowKit
set_option linter.unusedVariables false
theorem own : ownKnob Tryz.prog.godebug = none := by kernel_rfl
theorem laidOut : laidOutB Tryz.prog = true := by kernel_rfl
theorem plainly : ∀ x, PsIn [.one (.row .pfx 27), .one (.fl .pfx)] x → (fun x => law_SpanAdds_t x.1 x.2.1) x = some ((true : Bool), ()) := fun x hx => SpanAdds_eq hx.1.2 hx.2.1
set_option maxRecDepth 100000 in
/-- What the walk gives. -/
theorem contract (H : Type) (enc : TypeId × Value → H) (W : World) (base : Nat) (args : Array Value) (ds gs : List (DataW H)) (before : List MemPlace)
  (hval : ∀ (j : Nat) t v, Tryz.f5.params[j]? = some t → args[j]? = some v → Value.okWide Tryz.prog W .any base t v)
  (hW : DataW.Whole enc Tryz.prog Tryz.f5.params.toList Rows.spanAddsSpec.vars false W args.toList ds gs before) (hG : Glob Tryz.prog W) :
  Calls Tryz.prog 5 args W fun e W' => ∃ v, e = .returned v ∧ Rows.spanAddsSpec.post enc Tryz.prog Tryz.f5 false true false false W args v W' := by
 have hW' := hW
 obtain ⟨p, q, hA0, hV, rfl, hfz, hnd⟩ := hW
 have hA : DataW.TrodAll enc Tryz.prog W 0 (fun _ => true) true Tryz.f5.params.toList args.toList ds p := hA0
 rw [Tryz.params5] at hA hval
 have hA2 := hA
 obtain ⟨v0, vs0, d0, ds0, p0, q0, hargs, rfl, rfl, h0, r0⟩ := trodAll_cons hA
 obtain ⟨v1, vs1, d1, ds1, p1, q1, rfl, rfl, rfl, h1, r1⟩ := trodAll_cons r0
 obtain ⟨rfl, rfl, rfl⟩ := trodAll_nil r1
 obtain rfl : args = #[v0, v1] := by cases args; simp_all
 obtain ⟨rfl, rfl⟩ := trodVars_none hV
 have call := law_calls (enc := enc) hG law_SpanAdds_ok plainly (fun x => rfl) (fun x => rfl) (ts := [22, 27]) (vs := [v0, v1]) (by kernel_rfl) (fun j t v h1 h2 => hval j t v (by simpa using h1) (by simpa using h2)) hA2
 refine call.mono fun e W' ⟨he, bel⟩ => ?_
 subst he
 exact ⟨_, rfl, _, _, _, [], _, [], hW', trodAll_mk1 (shut_bool Tryz.underlying4 _), all_back laidOut bel _ _ _ _ (by kernel_rfl) hA2, rfl, bel.frame _, fun h => by cases h⟩
mutual
def flat : DataW Unit → List Value
 | .lit (.int k x) => [.int k x]
 | .agg l => flats l
 | _ => []
def flats : List (DataW Unit) → List Value
 | [] => []
 | d :: r => flat d ++ flats r
end
noncomputable def low : Nat := (World.holding Tryz.prog default ⟨#[], #[], []⟩).heap.size
noncomputable def laidWorld (os : Os) : World :=
 let w0 := World.holding Tryz.prog os ⟨#[.cells #[.string ⟨#[118, 97, 108, 117, 101, 32, 111, 117, 116, 32, 111, 102, 32, 114, 97, 110, 103, 101]⟩] 187, .cells #[.string ⟨#[105, 110, 118, 97, 108, 105, 100, 32, 115, 121, 110, 116, 97, 120]⟩] 187], #[], []⟩
 {w0 with heap := (((((((w0.heap.modify 4 fun | .cells _ t frozen => .cells (flat Rows.laid_math_bits_deBruijn32tab).toArray t frozen | o => o).modify 5 fun | .cells _ t frozen => .cells (flat Rows.laid_math_bits_deBruijn64tab).toArray t frozen | o => o).modify 3 fun | .cells _ t frozen => .cells (flat Rows.laid_internal_strconv_uint64pow10).toArray t frozen | o => o).modify 7 fun | .cells _ t frozen => .cells (flat Rows.laid_unicode_utf8_acceptRanges).toArray t frozen | o => o).modify 2 fun | .cells _ t frozen => .cells #[.iface 185 (.pointer (some ⟨low + 0, 0, none⟩))] t frozen | o => o).modify 1 fun | .cells _ t frozen => .cells #[.iface 185 (.pointer (some ⟨low + 1, 0, none⟩))] t frozen | o => o).modify 6 fun | .cells _ t frozen => .cells (flat Rows.laid_unicode_utf8_first).toArray t frozen | o => o) }
theorem laid_met (os : Os) (args : Array Value) : laidMet Tryz.prog Rows.spanAddsRow.laid ((laidWorld os).forCall (fun _ _ => 0) ⟨#[], args, []⟩).memory :=
 laidMet_of_run' 8 (by kernel_rfl) (by kernel_rfl)
theorem reads (os : Os) {H : Type} (enc : TypeId × Value → H) : ∃ places, DataW.whole enc Tryz.prog ((laidWorld os).forCall (fun _ _ => 0) ⟨#[], #[.slice none 0 0, .agg #[.bool false, .int .u64 0, .int .u64 0, .int .i64 0]], []⟩).memory Tryz.f5.params.toList Rows.spanAddsSpec.vars false (#[.slice none 0 0, .agg #[.bool false, .int .u64 0, .int .u64 0, .int .i64 0]] : Array Value).toList 8 = some ([.nil, .agg [.agg [.lit (.bool false), .lit (.int .u64 0), .lit (.int .u64 0)], .lit (.int .i64 0)]], [], places) :=
 ⟨[], by kernel_rfl⟩
set_option maxRecDepth 100000 in
theorem lifted (os : Os) (started : os.Started) (H : Type) (enc : TypeId × Value → H) (F : Stop.Interp) :
  ReturnsInHanded {} Tryz.checked os 5 .any ((OpenSpec.ofChange Rows.spanAddsSpec).preRow enc Tryz.prog Tryz.f5 Rows.spanAddsRow.domain false Rows.spanAddsRow.laid) (((OpenSpec.ofChange Rows.spanAddsSpec).at F).post enc Tryz.prog Tryz.f5 false true false false) := by
 obtain ⟨places, hx⟩ := reads os enc
 refine returnsInHanded_of_row (C := Tryz.checked) (s := OpenSpec.ofChange Rows.spanAddsSpec) own started (by kernel_rfl) Tryz.func5
  (witness_row_at (enc := enc) (C := Tryz.checked) false (laidWorld os) #[.slice none 0 0, .agg #[.bool false, .int .u64 0, .int .u64 0, .int .i64 0]] rfl (by kernel_rfl) (by kernel_rfl) (by kernel_rfl)
   (OpenSpec.preRow_of_cond 8 hx (by kernel_rfl) (fun k hk => by cases hk) (by kernel_rfl) (laid_met os _))) ?_
 intro W base args ds gs before hval hW _ hcond _ hL hS _
 have hL2 : laidMet Tryz.prog Rows.spanAddsRow.laid W := by rw [← MakeChecks.laidMetH_plain _ _ _ (by kernel_rfl)]; exact hL
 exact contract H enc W base args ds gs before hval hW (Glob.of_B hS hL2 (by kernel_rfl))
theorem said : Rows.SpanAddsSaid :=
 OpenClaim.holds_of_cond 5 Tryz.f5 rfl rfl rfl rfl rfl rfl rfl ⟨rfl, rfl, rfl, rfl, rfl⟩ rfl rfl rfl rfl rfl (by kernel_rfl) Tryz.func5 (by kernel_rfl)
  (of_decide_eq_true (by kernel_rfl)) (by unfold Func.isWrapper; first | (rw [if_pos (by decide +kernel)]; kernel_rfl) | (rw [if_neg (by decide +kernel)]; exact ⟨rfl, rfl⟩))
  (fun os started H enc _ F => by rw [OpenClaim.pre_eq_preRow]; exact lifted os started H enc F)
theorem plain (f : FuncId) (fn : Func) (hf : Tryz.pinned.checked.prog.funcNamed "yardarm/yardarmlaw.SpanAdds" = some f) (hfn : Tryz.pinned.checked.prog.funcs[f]? = some fn) :
  true = Tryz.pinned.checked.prog.looks [] ∧ ∀ (j : Nat) t, fn.params[j]? = some t → Tryz.pinned.checked.prog.wantsStandIn t = false := by
 obtain rfl : f = 5 := Option.some.inj ((show Tryz.prog.funcNamed "yardarm/yardarmlaw.SpanAdds" = some 5 by kernel_rfl).symm.trans hf) |>.symm
 obtain rfl : fn = Tryz.f5 := (Option.some.inj (Tryz.func5.symm.trans hfn)).symm
 refine ⟨by kernel_rfl, fun j t ht => ?_⟩
 rw [Tryz.params5] at ht
 have hm := Array.mem_of_getElem? ht
 have hm2 : t = 22 ∨ t = 27 := by simpa using hm
 rcases hm2 with rfl | rfl
 ·exact (show Tryz.prog.wantsStandIn 22 = false by kernel_rfl)
 ·exact (show Tryz.prog.wantsStandIn 27 = false by kernel_rfl)
theorem card : Rows.SpanAddsCardSaid :=
 Claim7.holds_tied_plain_at .later [] _ _ _ _ said (fun _ h => by cases h) (by kernel_rfl) (fun _ h => by cases h) spanAdds_row_tie rfl ⟨rfl, rfl⟩ (by kernel_rfl) rfl plain (by kernel_rfl)
end Go.Proofs.YtfkfpgoicmfpkaaGreatDoor.spanAdds
namespace Go.Proofs.YtfkfpgoicmfpkaaGreatDoor
theorem spanAdds_said : Rows.SpanAddsCardSaid := spanAdds.card
end Go.Proofs.YtfkfpgoicmfpkaaGreatDoor
namespace Go.Ma
open Go
theorem nP_none {b : Bk} : nP (diffB [b] [b]) = [] := by
 unfold nP normC
 have e : ∀ v F K, canon v (diffB [b] [b] v) F K = [] := fun v F K => canon_none fun n _ _ h => h.2 h.1
 rw [e, e]
 rfl
theorem nil_in : tabIn ([] : List Pf) := fun p hp => by cases hp
theorem one_in {p : Pf} (hp : p.In) : tabIn [p] := fun q hq => by simp only [List.mem_singleton] at hq; rw [hq]; exact hp
theorem rdy_nil {p : Pf} (hc : chkP p = 0) : rdyP p [] = 0 := by unfold rdyP; rw [if_neg (fun h => h hc)]; rfl
theorem rdy_one {p q : Pf} (hc : chkP p = 0) (hq : chkP q = 0) : rdyP p [q] = 0 := by
 unfold rdyP
 rw [if_neg (fun h => h hc)]
 exact chkL_of (by simp) fun x hx => by simp only [List.mem_singleton] at hx; rw [hx]; exact hq
theorem firstT_same {p q : Pf} (hp : rtP p) (hq : rtP q) (h1 : over p q = false) (h2 : over q p = false) (bits : Int) : firstT p [q] bits = firstT p [] bits := by
 have e : nP (diffB [toB p] ([q].map toB)) = nP (diffB [toB p] (([] : List Pf).map toB)) := nP_congr fun v n _ => by
  unfold diffB
  refine ⟨fun h => ⟨h.1, fun ⟨b, hb, _⟩ => by cases hb⟩, fun h => ⟨h.1, fun h3 => ?_⟩⟩
  rw [toB_over hp hq] at h1
  rw [toB_over hq hp] at h2
  exact no_meet h2 h1 (covB_one.1 h.1) (covB_one.1 h3)
 unfold firstT rdyF
 rw [rdy_one hp.2 hq.2, rdy_nil hp.2, e]
theorem cut_one {p : Pf} {bits : Int} (h : p.bits ≤ bits) : cutFirst [p] bits = some ⟨p.ad, bits⟩ := by
 unfold cutFirst
 rw [List.find?_cons, decide_eq_true h]
 rfl
theorem PickAll_eq {p q : Pf} (hp : p.In) (hq : q.In) (bits : Int) : law_PickAll_t p q bits = some (true, ()) := by
 unfold law_PickAll_t
 rw [pickBegun_eq, bind_s]
 simp only [Bool.not_true, br_false, prefixBegun_eq, bind_s]
 rw [pick_Free_eq hp nil_in, bind_s, pick_Free_eq hp (one_in hp)]
 have d0 : decide ((0 : Int) = 0) = true := rfl
 by_cases hc : chkP p = 0
 rotate_left
 ·have e1 : freeT p [] = ([], chkP p, ()) := by
   have : rdyP p [] = chkP p := by unfold rdyP; rw [if_pos hc]
   unfold freeT
   rw [this, if_pos hc]
  rw [e1]
  simp only [decide_eq_false hc, Bool.not_false, br_true]
  rfl
 have rp : rtP p := ⟨hp, hc⟩
 have e1 : freeT p [] = ([p], 0, ()) := by
  unfold freeT
  rw [if_neg (fun h => h (rdy_nil hc)), show nP (diffB [toB p] (([] : List Pf).map toB)) = [p] from nP_one rp]
 have e2 : freeT p [p] = ([], 0, ()) := by
  unfold freeT
  rw [if_neg (fun h => h (rdy_one hc hc)), show nP (diffB [toB p] ([p].map toB)) = [] from nP_none]
 have z1 : decide (lenL ([] : List Pf) > 0) = false := rfl
 have z2 : decide (lenL [p] = 1) = true := rfl
 have z3 : req (inRange 0 (lenL [p])) ((geti [p] 0).bind fun p7 => some (!(eqPf p7 p))) = some false := by
  show (geti [p] 0).bind (fun p7 => some (!(eqPf p7 p))) = some false
  show some (!(eqPf p p)) = some false
  rw [eqPf_eq, decide_eq_true rfl]
  rfl
 rw [e1, e2]
 simp only [decide_true, decide_true, d0, z1, z2, z3, Bool.not_true, br_false, bind_s]
 rw [pick_First_eq hp nil_in, bind_s]
 have hx : (br (decide ((firstT p [] bits).2.1 = 0)) (br (!(eqAd (firstT p [] bits).1.ad p.ad)) (some true) (some (!decide ((firstT p [] bits).1.bits = bits)))) (some false)) = some false := by
  unfold firstT rdyF
  rw [rdy_nil hc]
  simp only [ne_eq, not_true, if_false]
  by_cases hb : bits < p.bits ∨ ((wid p.ad.v6 : Nat) : Int) < bits
  ·rw [if_pos hb]
   rfl
  ·rw [if_neg hb]
   simp only [not_true, if_false]
   rw [show nP (diffB [toB p] (([] : List Pf).map toB)) = [p] from nP_one rp, cut_one (by omega)]
   simp only [firstOut, decide_true, d0, br_true, eqAd_eq, decide_true, Bool.not_true, br_false]
 rw [hx, bind_s, br_false, prefix_Has_eq hp hq, bind_s, prefix_Has_eq hq hp, bind_s]
 by_cases hcq : chkP q = 0
 rotate_left
 ·have e3 : hasT p q = (false, chkP q, ()) := by unfold hasT; rw [if_neg (fun h => h hc), if_pos hcq]
  rw [e3]
  simp only [decide_eq_false hcq, Bool.not_false, br_true, bind_s]
 have rq : rtP q := ⟨hq, hcq⟩
 rw [has_right hc hcq, has_right hcq hc]
 simp only [decide_true, decide_true, d0, Bool.not_true, br_false, bind_s]
 cases o1 : over p q
 ·cases o2 : over q p
  ·simp only [br_false, bind_s]
   rw [pick_First_eq hp (one_in hq), bind_s, firstT_same rp rq o1 o2, decide_eq_true rfl, br_true, eqPf_eq, decide_eq_true rfl]
   rfl
  ·rfl
 ·rfl
theorem clear_loop {used : List Pf} {p x : Pf} (hu : ∀ q ∈ used, rtP q) (hx : rtP x) (hl : used.length ≤ 1000) (h : ∀ u ∈ used, over u x = false ∧ over x u = false) (bits : Int) :
  loopN zq7 FUEL (((), (bits, ()), (), (), (0, ()), ()), (used, (p, ()), (x, ()), ())) = some (Sum.inr (((), (bits, ()), (), (), ()), (used, (p, ()), (x, ()), ()))) := by
 refine loop_up (step := zq7) (fun i => (((), (bits, ()), (), (), ((i : Int), ()), ()), (used, (p, ()), (x, ()), ()))) used.length (fun _ => some (Sum.inr (((), (bits, ()), (), (), ()), (used, (p, ()), (x, ()), ())))) (fun rec i hi hrec => ?_) (fun rec => ?_) FUEL 0 (Nat.zero_le _) (fuel_gt (by omega))
 ·obtain ⟨u, hu'⟩ : ∃ e, used[i]? = some e := ⟨_, List.getElem?_eq_getElem hi⟩
  have hm := List.mem_of_getElem? hu'
  have ru := hu u hm
  obtain ⟨o1, o2⟩ := h u hm
  have ri : inRange (i : Int) (lenL used) = true := inRange_of (by omega) (by unfold lenL; omega)
  have d0 : decide ((0 : Int) = 0) = true := rfl
  simp only [zq7]
  rw [decide_eq_true (show (i : Int) < lenL used by unfold lenL; omega), br_true]
  simp only [ri, req_true, geti_at hu', bind_s, prefix_Has_eq ru.1 hx.1, prefix_Has_eq hx.1 ru.1, has_right ru.2 hx.2, has_right hx.2 ru.2, o1, o2, decide_true, d0, Bool.not_true, br_false]
  rw [show ((i : Int) + 1) = ((i + 1 : Nat) : Int) by omega, req_of (i64ok_of (by omega) (by omega)), hrec]
 ·simp only [zq7]
  rw [decide_eq_false (show ¬ (used.length : Int) < lenL used by unfold lenL; omega), br_false]
theorem pfZ_eq : eqPf pfZ (⟨(⟨false, 0, 0⟩ : Ad), 0⟩ : Pf) = true := by rw [eqPf_eq]; exact decide_eq_true rfl
theorem PickClear_eq {p : Pf} {used : List Pf} (hp : p.In) (hu : tabIn used) (bits : Int) : law_PickClear_t p used bits = some (true, ()) := by
 unfold law_PickClear_t
 rw [pick_First_eq hp hu, bind_s, pickBegun_eq, bind_s]
 simp only [Bool.not_true, br_false, prefixBegun_eq, addrBegun_eq, bind_s]
 have d0 : decide ((0 : Int) = 0) = true := rfl
 have d8 : decide ((8 : Int) = 0) = false := rfl
 by_cases hF : rdyF p used bits = 0
 rotate_left
 ·have e1 : firstT p used bits = (pfZ, rdyF p used bits, ()) := by unfold firstT; rw [if_pos hF]
  rw [e1]
  simp only [decide_eq_false hF, Bool.not_false, br_true, pfZ_eq]
 have hr : rdyP p used = 0 := by
  unfold rdyF at hF
  split at hF
  ·rename_i h1; exact absurd hF h1
  ·rename_i h1; exact Decidable.not_not.1 h1
 have hb : ¬ (bits < p.bits ∨ ((wid p.ad.v6 : Nat) : Int) < bits) := by
  unfold rdyF at hF
  rw [if_neg (fun h => h hr)] at hF
  intro hh
  rw [if_pos hh] at hF
  cases hF
 obtain ⟨rp, hl, hall⟩ := rdyP_ok hp hu hr
 have e1 : firstT p used bits = firstOut (cutFirst (nP (diffB [toB p] (used.map toB))) bits) := by unfold firstT; rw [if_neg (fun h => h hF)]
 rw [e1]
 cases hx : cutFirst (nP (diffB [toB p] (used.map toB))) bits with
 | none =>
  simp only [firstOut, pfZ_eq]
  exact br_true _ _
 | some x =>
  obtain ⟨x1, x2, x3, x4, x5⟩ := pick_clear rp hall (show p.bits ≤ bits by omega) (show bits ≤ ((wid p.ad.v6 : Nat) : Int) by omega) hx
  simp only [firstOut, decide_true, d0, Bool.not_true, br_false]
  rw [prefix_Has_eq hp x1.1, has_right rp.2 x1.2, x3, bind_s]
  simp only [decide_true, decide_true, d0, Bool.not_true, br_false, bind_s]
  have x6 := x1.2
  simp only [x2, decide_true, Bool.not_true, br_false, bind_s, zq18 x1.1, x6]
  rw [clear_loop hall x1 (by omega) x4, bind_s]
  simp only [sumC]
  by_cases h12 : lenL used = 12
  ·rw [decide_eq_true h12, br_true]
  rw [decide_eq_false h12, br_false]
  have hlt : used.length < 12 := by unfold lenL at h12; omega
  have hT : tabIn (used ++ [x]) := fun y hy => by
   rcases List.mem_append.1 hy with hy | hy
   ·exact hu y hy
   ·simp only [List.mem_singleton] at hy; rw [hy]; exact x1.1
  have hTc : chkL (used ++ [x]) = 0 := chkL_of (by simp; omega) fun y hy => by
   rcases List.mem_append.1 hy with hy | hy
   ·exact (hall y hy).2
   ·simp only [List.mem_singleton] at hy; rw [hy]; exact x1.2
  have ra : room (lenL ([] : List Pf)) (lenL used) = true := room_of (zq11 _) (zq11 _) (by unfold lenL; simp; omega)
  have rb : room (lenL used) (lenL [x]) = true := room_of (zq11 _) (zq11 _) (by unfold lenL; simp; omega)
  have e2 : firstT p (used ++ [x]) bits = firstOut (cutFirst (nP (diffB [toB p] ((used ++ [x]).map toB))) bits) := by
   have : rdyF p (used ++ [x]) bits = 0 := by
    have h0 : rdyP p (used ++ [x]) = 0 := by unfold rdyP; rw [if_neg (fun h => h rp.2), hTc]
    unfold rdyF
    rw [if_neg (fun h => h h0), if_neg hb]
   unfold firstT
   rw [if_neg (fun h => h this)]
  have hcore : ((zq16 p (used ++ [x]) bits).bind fun y12 =>
    br (!decide (y12.2.1 = 0))
     (some (decide (y12.2.1 = 8), ()))
     ((zq2 x.ad y12.1.ad).bind fun y13 =>
     (br (decide (y13.2.1 = 0))
       (some y13.1)
       (some false)).bind fun c14 =>
     (some (c14, ()) : Option (Bool × Unit)))) = some (true, ()) := by
   rw [pick_First_eq hp hT, bind_s, e2]
   cases hy : cutFirst (nP (diffB [toB p] ((used ++ [x]).map toB))) bits with
   | none => rfl
   | some y =>
    obtain ⟨y1, y2⟩ := x5 y hy
    simp only [firstOut, decide_true, d0, Bool.not_true, br_false]
    rw [less_right' x1.1.1 y1.1.1 (chkP_ad x1.2) (chkP_ad y1.2), bind_s, y2]
    rfl
  simp only [List.nil_append, ra, rb, req_true, dup_eq, hcore, both_self]
end Go.Ma
namespace Go.Proofs.YtfkfpgoicmfpkaaGreatDoor.pickClear
open Go Go.Ma Go.ChangeShapes Go.WideShapes Go.ChangeAt Go.RowKit
set_option linter.unusedVariables false
theorem own : ownKnob Tryz.prog.godebug = none := by kernel_rfl
theorem laidOut : laidOutB Tryz.prog = true := by kernel_rfl
theorem plainly : ∀ x, PsIn [.one (.fl .pfx), .one (.row .pfx 27), .one (.fl .int)] x → (fun x => law_PickClear_t x.1 x.2.1 x.2.2.1) x = some ((true : Bool), ()) := fun x hx => PickClear_eq hx.1 hx.2.1.2 _
set_option maxRecDepth 100000 in
/-- What the walk gives. -/
theorem contract (H : Type) (enc : TypeId × Value → H) (W : World) (base : Nat) (args : Array Value) (ds gs : List (DataW H)) (before : List MemPlace)
  (hval : ∀ (j : Nat) t v, Tryz.f6.params[j]? = some t → args[j]? = some v → Value.okWide Tryz.prog W .any base t v)
  (hW : DataW.Whole enc Tryz.prog Tryz.f6.params.toList Rows.pickClearSpec.vars false W args.toList ds gs before) (hG : Glob Tryz.prog W) :
  Calls Tryz.prog 6 args W fun e W' => ∃ v, e = .returned v ∧ Rows.pickClearSpec.post enc Tryz.prog Tryz.f6 false true false false W args v W' := by
 have hW' := hW
 obtain ⟨p, q, hA0, hV, rfl, hfz, hnd⟩ := hW
 have hA : DataW.TrodAll enc Tryz.prog W 0 (fun _ => true) true Tryz.f6.params.toList args.toList ds p := hA0
 rw [Tryz.params6] at hA hval
 have hA2 := hA
 obtain ⟨v0, vs0, d0, ds0, p0, q0, hargs, rfl, rfl, h0, r0⟩ := trodAll_cons hA
 obtain ⟨v1, vs1, d1, ds1, p1, q1, rfl, rfl, rfl, h1, r1⟩ := trodAll_cons r0
 obtain ⟨v2, vs2, d2, ds2, p2, q2, rfl, rfl, rfl, h2, r2⟩ := trodAll_cons r1
 obtain ⟨rfl, rfl, rfl⟩ := trodAll_nil r2
 obtain rfl : args = #[v0, v1, v2] := by cases args; simp_all
 obtain ⟨rfl, rfl⟩ := trodVars_none hV
 have call := law_calls (enc := enc) hG law_PickClear_ok plainly (fun x => rfl) (fun x => rfl) (ts := [27, 22, 3]) (vs := [v0, v1, v2]) (by kernel_rfl) (fun j t v h1 h2 => hval j t v (by simpa using h1) (by simpa using h2)) hA2
 refine call.mono fun e W' ⟨he, bel⟩ => ?_
 subst he
 exact ⟨_, rfl, _, _, _, [], _, [], hW', trodAll_mk1 (shut_bool Tryz.underlying4 _), all_back laidOut bel _ _ _ _ (by kernel_rfl) hA2, rfl, bel.frame _, fun h => by cases h⟩
mutual
def flat : DataW Unit → List Value
 | .lit (.int k x) => [.int k x]
 | .agg l => flats l
 | _ => []
def flats : List (DataW Unit) → List Value
 | [] => []
 | d :: r => flat d ++ flats r
end
noncomputable def low : Nat := (World.holding Tryz.prog default ⟨#[], #[], []⟩).heap.size
noncomputable def laidWorld (os : Os) : World :=
 let w0 := World.holding Tryz.prog os ⟨#[.cells #[.string ⟨#[118, 97, 108, 117, 101, 32, 111, 117, 116, 32, 111, 102, 32, 114, 97, 110, 103, 101]⟩] 187, .cells #[.string ⟨#[105, 110, 118, 97, 108, 105, 100, 32, 115, 121, 110, 116, 97, 120]⟩] 187], #[], []⟩
 {w0 with heap := (((((((w0.heap.modify 4 fun | .cells _ t frozen => .cells (flat Rows.laid_math_bits_deBruijn32tab).toArray t frozen | o => o).modify 5 fun | .cells _ t frozen => .cells (flat Rows.laid_math_bits_deBruijn64tab).toArray t frozen | o => o).modify 3 fun | .cells _ t frozen => .cells (flat Rows.laid_internal_strconv_uint64pow10).toArray t frozen | o => o).modify 7 fun | .cells _ t frozen => .cells (flat Rows.laid_unicode_utf8_acceptRanges).toArray t frozen | o => o).modify 2 fun | .cells _ t frozen => .cells #[.iface 185 (.pointer (some ⟨low + 0, 0, none⟩))] t frozen | o => o).modify 1 fun | .cells _ t frozen => .cells #[.iface 185 (.pointer (some ⟨low + 1, 0, none⟩))] t frozen | o => o).modify 6 fun | .cells _ t frozen => .cells (flat Rows.laid_unicode_utf8_first).toArray t frozen | o => o) }
theorem laid_met (os : Os) (args : Array Value) : laidMet Tryz.prog Rows.pickClearRow.laid ((laidWorld os).forCall (fun _ _ => 0) ⟨#[], args, []⟩).memory :=
 laidMet_of_run' 8 (by kernel_rfl) (by kernel_rfl)
theorem reads (os : Os) {H : Type} (enc : TypeId × Value → H) : ∃ places, DataW.whole enc Tryz.prog ((laidWorld os).forCall (fun _ _ => 0) ⟨#[], #[.agg #[.bool false, .int .u64 0, .int .u64 0, .int .i64 0], .slice none 0 0, .int .i64 0], []⟩).memory Tryz.f6.params.toList Rows.pickClearSpec.vars false (#[.agg #[.bool false, .int .u64 0, .int .u64 0, .int .i64 0], .slice none 0 0, .int .i64 0] : Array Value).toList 8 = some ([.agg [.agg [.lit (.bool false), .lit (.int .u64 0), .lit (.int .u64 0)], .lit (.int .i64 0)], .nil, .lit (.int .i64 0)], [], places) :=
 ⟨[], by kernel_rfl⟩
set_option maxRecDepth 100000 in
theorem lifted (os : Os) (started : os.Started) (H : Type) (enc : TypeId × Value → H) (F : Stop.Interp) :
  ReturnsInHanded {} Tryz.checked os 6 .any ((OpenSpec.ofChange Rows.pickClearSpec).preRow enc Tryz.prog Tryz.f6 Rows.pickClearRow.domain false Rows.pickClearRow.laid) (((OpenSpec.ofChange Rows.pickClearSpec).at F).post enc Tryz.prog Tryz.f6 false true false false) := by
 obtain ⟨places, hx⟩ := reads os enc
 refine returnsInHanded_of_row (C := Tryz.checked) (s := OpenSpec.ofChange Rows.pickClearSpec) own started (by kernel_rfl) Tryz.func6
  (witness_row_at (enc := enc) (C := Tryz.checked) false (laidWorld os) #[.agg #[.bool false, .int .u64 0, .int .u64 0, .int .i64 0], .slice none 0 0, .int .i64 0] rfl (by kernel_rfl) (by kernel_rfl) (by kernel_rfl)
   (OpenSpec.preRow_of_cond 8 hx (by kernel_rfl) (fun k hk => by cases hk) (by kernel_rfl) (laid_met os _))) ?_
 intro W base args ds gs before hval hW _ hcond _ hL hS _
 have hL2 : laidMet Tryz.prog Rows.pickClearRow.laid W := by rw [← MakeChecks.laidMetH_plain _ _ _ (by kernel_rfl)]; exact hL
 exact contract H enc W base args ds gs before hval hW (Glob.of_B hS hL2 (by kernel_rfl))
theorem said : Rows.PickClearSaid :=
 OpenClaim.holds_of_cond 6 Tryz.f6 rfl rfl rfl rfl rfl rfl rfl ⟨rfl, rfl, rfl, rfl, rfl⟩ rfl rfl rfl rfl rfl (by kernel_rfl) Tryz.func6 (by kernel_rfl)
  (of_decide_eq_true (by kernel_rfl)) (by unfold Func.isWrapper; first | (rw [if_pos (by decide +kernel)]; kernel_rfl) | (rw [if_neg (by decide +kernel)]; exact ⟨rfl, rfl⟩))
  (fun os started H enc _ F => by rw [OpenClaim.pre_eq_preRow]; exact lifted os started H enc F)
theorem plain (f : FuncId) (fn : Func) (hf : Tryz.pinned.checked.prog.funcNamed "yardarm/yardarmlaw.PickClear" = some f) (hfn : Tryz.pinned.checked.prog.funcs[f]? = some fn) :
  true = Tryz.pinned.checked.prog.looks [] ∧ ∀ (j : Nat) t, fn.params[j]? = some t → Tryz.pinned.checked.prog.wantsStandIn t = false := by
 obtain rfl : f = 6 := Option.some.inj ((show Tryz.prog.funcNamed "yardarm/yardarmlaw.PickClear" = some 6 by kernel_rfl).symm.trans hf) |>.symm
 obtain rfl : fn = Tryz.f6 := (Option.some.inj (Tryz.func6.symm.trans hfn)).symm
 refine ⟨by kernel_rfl, fun j t ht => ?_⟩
 rw [Tryz.params6] at ht
 have hm := Array.mem_of_getElem? ht
 have hm2 : t = 27 ∨ t = 22 ∨ t = 3 := by simpa using hm
 rcases hm2 with rfl | rfl | rfl
 ·exact (show Tryz.prog.wantsStandIn 27 = false by kernel_rfl)
 ·exact (show Tryz.prog.wantsStandIn 22 = false by kernel_rfl)
 ·exact (show Tryz.prog.wantsStandIn 3 = false by kernel_rfl)
theorem card : Rows.PickClearCardSaid :=
 Claim7.holds_tied_plain_at .later [] _ _ _ _ said (fun _ h => by cases h) (by kernel_rfl) (fun _ h => by cases h) pickClear_row_tie rfl ⟨rfl, rfl⟩ (by kernel_rfl) rfl plain (by kernel_rfl)
end Go.Proofs.YtfkfpgoicmfpkaaGreatDoor.pickClear
namespace Go.Proofs.YtfkfpgoicmfpkaaGreatDoor
theorem pickClear_said : Rows.PickClearCardSaid := pickClear.card
end Go.Proofs.YtfkfpgoicmfpkaaGreatDoor
namespace Go.Proofs.YtfkfpgoicmfpkaaGreatDoor.pickAll
open Go Go.Ma Go.ChangeShapes Go.WideShapes Go.ChangeAt Go.RowKit
set_option linter.unusedVariables false
theorem own : ownKnob Tryz.prog.godebug = none := by kernel_rfl
theorem laidOut : laidOutB Tryz.prog = true := by kernel_rfl
theorem plainly : ∀ x, PsIn [.one (.fl .pfx), .one (.fl .pfx), .one (.fl .int)] x → (fun x => law_PickAll_t x.1 x.2.1 x.2.2.1) x = some ((true : Bool), ()) := fun x hx => PickAll_eq hx.1 hx.2.1 _
set_option maxRecDepth 100000 in
/-- What the walk gives. -/
theorem contract (H : Type) (enc : TypeId × Value → H) (W : World) (base : Nat) (args : Array Value) (ds gs : List (DataW H)) (before : List MemPlace)
  (hval : ∀ (j : Nat) t v, Tryz.f7.params[j]? = some t → args[j]? = some v → Value.okWide Tryz.prog W .any base t v)
  (hW : DataW.Whole enc Tryz.prog Tryz.f7.params.toList Rows.pickAllSpec.vars false W args.toList ds gs before) (hG : Glob Tryz.prog W) :
  Calls Tryz.prog 7 args W fun e W' => ∃ v, e = .returned v ∧ Rows.pickAllSpec.post enc Tryz.prog Tryz.f7 false true false false W args v W' := by
 have hW' := hW
 obtain ⟨p, q, hA0, hV, rfl, hfz, hnd⟩ := hW
 have hA : DataW.TrodAll enc Tryz.prog W 0 (fun _ => true) true Tryz.f7.params.toList args.toList ds p := hA0
 rw [Tryz.params7] at hA hval
 have hA2 := hA
 obtain ⟨v0, vs0, d0, ds0, p0, q0, hargs, rfl, rfl, h0, r0⟩ := trodAll_cons hA
 obtain ⟨v1, vs1, d1, ds1, p1, q1, rfl, rfl, rfl, h1, r1⟩ := trodAll_cons r0
 obtain ⟨v2, vs2, d2, ds2, p2, q2, rfl, rfl, rfl, h2, r2⟩ := trodAll_cons r1
 obtain ⟨rfl, rfl, rfl⟩ := trodAll_nil r2
 obtain rfl : args = #[v0, v1, v2] := by cases args; simp_all
 obtain ⟨rfl, rfl⟩ := trodVars_none hV
 have call := law_calls (enc := enc) hG law_PickAll_ok plainly (fun x => rfl) (fun x => rfl) (ts := [27, 27, 3]) (vs := [v0, v1, v2]) (by kernel_rfl) (fun j t v h1 h2 => hval j t v (by simpa using h1) (by simpa using h2)) hA2
 refine call.mono fun e W' ⟨he, bel⟩ => ?_
 subst he
 exact ⟨_, rfl, _, _, _, [], _, [], hW', trodAll_mk1 (shut_bool Tryz.underlying4 _), all_back laidOut bel _ _ _ _ (by kernel_rfl) hA2, rfl, bel.frame _, fun h => by cases h⟩
mutual
def flat : DataW Unit → List Value
 | .lit (.int k x) => [.int k x]
 | .agg l => flats l
 | _ => []
def flats : List (DataW Unit) → List Value
 | [] => []
 | d :: r => flat d ++ flats r
end
noncomputable def low : Nat := (World.holding Tryz.prog default ⟨#[], #[], []⟩).heap.size
noncomputable def laidWorld (os : Os) : World :=
 let w0 := World.holding Tryz.prog os ⟨#[.cells #[.string ⟨#[118, 97, 108, 117, 101, 32, 111, 117, 116, 32, 111, 102, 32, 114, 97, 110, 103, 101]⟩] 187, .cells #[.string ⟨#[105, 110, 118, 97, 108, 105, 100, 32, 115, 121, 110, 116, 97, 120]⟩] 187], #[], []⟩
 {w0 with heap := (((((((w0.heap.modify 4 fun | .cells _ t frozen => .cells (flat Rows.laid_math_bits_deBruijn32tab).toArray t frozen | o => o).modify 5 fun | .cells _ t frozen => .cells (flat Rows.laid_math_bits_deBruijn64tab).toArray t frozen | o => o).modify 3 fun | .cells _ t frozen => .cells (flat Rows.laid_internal_strconv_uint64pow10).toArray t frozen | o => o).modify 7 fun | .cells _ t frozen => .cells (flat Rows.laid_unicode_utf8_acceptRanges).toArray t frozen | o => o).modify 2 fun | .cells _ t frozen => .cells #[.iface 185 (.pointer (some ⟨low + 0, 0, none⟩))] t frozen | o => o).modify 1 fun | .cells _ t frozen => .cells #[.iface 185 (.pointer (some ⟨low + 1, 0, none⟩))] t frozen | o => o).modify 6 fun | .cells _ t frozen => .cells (flat Rows.laid_unicode_utf8_first).toArray t frozen | o => o) }
theorem laid_met (os : Os) (args : Array Value) : laidMet Tryz.prog Rows.pickAllRow.laid ((laidWorld os).forCall (fun _ _ => 0) ⟨#[], args, []⟩).memory :=
 laidMet_of_run' 8 (by kernel_rfl) (by kernel_rfl)
theorem reads (os : Os) {H : Type} (enc : TypeId × Value → H) : ∃ places, DataW.whole enc Tryz.prog ((laidWorld os).forCall (fun _ _ => 0) ⟨#[], #[.agg #[.bool false, .int .u64 0, .int .u64 0, .int .i64 0], .agg #[.bool false, .int .u64 0, .int .u64 0, .int .i64 0], .int .i64 0], []⟩).memory Tryz.f7.params.toList Rows.pickAllSpec.vars false (#[.agg #[.bool false, .int .u64 0, .int .u64 0, .int .i64 0], .agg #[.bool false, .int .u64 0, .int .u64 0, .int .i64 0], .int .i64 0] : Array Value).toList 8 = some ([.agg [.agg [.lit (.bool false), .lit (.int .u64 0), .lit (.int .u64 0)], .lit (.int .i64 0)], .agg [.agg [.lit (.bool false), .lit (.int .u64 0), .lit (.int .u64 0)], .lit (.int .i64 0)], .lit (.int .i64 0)], [], places) :=
 ⟨[], by kernel_rfl⟩
set_option maxRecDepth 100000 in
theorem lifted (os : Os) (started : os.Started) (H : Type) (enc : TypeId × Value → H) (F : Stop.Interp) :
  ReturnsInHanded {} Tryz.checked os 7 .any ((OpenSpec.ofChange Rows.pickAllSpec).preRow enc Tryz.prog Tryz.f7 Rows.pickAllRow.domain false Rows.pickAllRow.laid) (((OpenSpec.ofChange Rows.pickAllSpec).at F).post enc Tryz.prog Tryz.f7 false true false false) := by
 obtain ⟨places, hx⟩ := reads os enc
 refine returnsInHanded_of_row (C := Tryz.checked) (s := OpenSpec.ofChange Rows.pickAllSpec) own started (by kernel_rfl) Tryz.func7
  (witness_row_at (enc := enc) (C := Tryz.checked) false (laidWorld os) #[.agg #[.bool false, .int .u64 0, .int .u64 0, .int .i64 0], .agg #[.bool false, .int .u64 0, .int .u64 0, .int .i64 0], .int .i64 0] rfl (by kernel_rfl) (by kernel_rfl) (by kernel_rfl)
   (OpenSpec.preRow_of_cond 8 hx (by kernel_rfl) (fun k hk => by cases hk) (by kernel_rfl) (laid_met os _))) ?_
 intro W base args ds gs before hval hW _ hcond _ hL hS _
 have hL2 : laidMet Tryz.prog Rows.pickAllRow.laid W := by rw [← MakeChecks.laidMetH_plain _ _ _ (by kernel_rfl)]; exact hL
 exact contract H enc W base args ds gs before hval hW (Glob.of_B hS hL2 (by kernel_rfl))
theorem said : Rows.PickAllSaid :=
 OpenClaim.holds_of_cond 7 Tryz.f7 rfl rfl rfl rfl rfl rfl rfl ⟨rfl, rfl, rfl, rfl, rfl⟩ rfl rfl rfl rfl rfl (by kernel_rfl) Tryz.func7 (by kernel_rfl)
  (of_decide_eq_true (by kernel_rfl)) (by unfold Func.isWrapper; first | (rw [if_pos (by decide +kernel)]; kernel_rfl) | (rw [if_neg (by decide +kernel)]; exact ⟨rfl, rfl⟩))
  (fun os started H enc _ F => by rw [OpenClaim.pre_eq_preRow]; exact lifted os started H enc F)
theorem plain (f : FuncId) (fn : Func) (hf : Tryz.pinned.checked.prog.funcNamed "yardarm/yardarmlaw.PickAll" = some f) (hfn : Tryz.pinned.checked.prog.funcs[f]? = some fn) :
  true = Tryz.pinned.checked.prog.looks [] ∧ ∀ (j : Nat) t, fn.params[j]? = some t → Tryz.pinned.checked.prog.wantsStandIn t = false := by
 obtain rfl : f = 7 := Option.some.inj ((show Tryz.prog.funcNamed "yardarm/yardarmlaw.PickAll" = some 7 by kernel_rfl).symm.trans hf) |>.symm
 obtain rfl : fn = Tryz.f7 := (Option.some.inj (Tryz.func7.symm.trans hfn)).symm
 refine ⟨by kernel_rfl, fun j t ht => ?_⟩
 rw [Tryz.params7] at ht
 have hm := Array.mem_of_getElem? ht
 have hm2 : t = 27 ∨ t = 27 ∨ t = 3 := by simpa using hm
 rcases hm2 with rfl | rfl | rfl
 ·exact (show Tryz.prog.wantsStandIn 27 = false by kernel_rfl)
 ·exact (show Tryz.prog.wantsStandIn 27 = false by kernel_rfl)
 ·exact (show Tryz.prog.wantsStandIn 3 = false by kernel_rfl)
theorem card : Rows.PickAllCardSaid :=
 Claim7.holds_tied_plain_at .later [] _ _ _ _ said (fun _ h => by cases h) (by kernel_rfl) (fun _ h => by cases h) pickAll_row_tie rfl ⟨rfl, rfl⟩ (by kernel_rfl) rfl plain (by kernel_rfl)
end Go.Proofs.YtfkfpgoicmfpkaaGreatDoor.pickAll
namespace Go.Proofs.YtfkfpgoicmfpkaaGreatDoor
theorem pickAll_said : Rows.PickAllCardSaid := pickAll.card
end Go.Proofs.YtfkfpgoicmfpkaaGreatDoor
namespace Go.Ma
open Go
theorem occ_at (X Y sub : List UInt8) : Lib.occAt (X ++ sub ++ Y) sub X.length = true := by
 unfold Lib.occAt
 rw [List.append_assoc, List.drop_left, List.isPrefixOf_iff_prefix]
 exact List.prefix_append _ _
theorem index_at {s sub : List UInt8} {k : Nat} (hk : k ≤ s.length) (h : Lib.occAt s sub k = true) (hn : ∀ j, j < k → Lib.occAt s sub j = false) : Lib.index s sub = (k : Int) := by
 rcases Lib.index_spec s sub with ⟨_, h2⟩ | ⟨i, h1, _, h3, h4⟩
 ·rw [h2 k hk] at h; cases h
 ·rw [h1]
  rcases Nat.lt_trichotomy i k with hlt | he | hlt
  ·rw [hn i hlt] at h3; cases h3
  ·rw [he]
  ·rw [h4 k hlt] at h; cases h
theorem index_no {s sub : List UInt8} (hn : ∀ j, j ≤ s.length → Lib.occAt s sub j = false) : Lib.index s sub = -1 := by
 rcases Lib.index_spec s sub with ⟨h1, _⟩ | ⟨i, _, h2, h3, _⟩
 ·exact h1
 ·rw [hn i h2] at h3; cases h3
theorem occ_one {s : List UInt8} {c : UInt8} {j : Nat} : Lib.occAt s [c] j = decide (s[j]? = some c) := by
 unfold Lib.occAt
 rw [← List.head?_drop]
 cases s.drop j with
 | nil => rfl
 | cons b r =>
  rw [Bool.eq_iff_iff]
  simp [List.isPrefixOf]
  exact eq_comm
theorem occ_two {s : List UInt8} {c d : UInt8} {j : Nat} : Lib.occAt s [c, d] j = (decide (s[j]? = some c) && decide (s[j + 1]? = some d)) := by
 unfold Lib.occAt
 have h1 : s[j]? = (s.drop j)[0]? := by rw [List.getElem?_drop, Nat.add_zero]
 have h2 : s[j + 1]? = (s.drop j)[1]? := by rw [List.getElem?_drop]
 rw [h1, h2]
 match s.drop j with
 | [] => rfl
 | [b] => simp [List.isPrefixOf]
 | b :: b2 :: r =>
  rw [Bool.eq_iff_iff]
  simp [List.isPrefixOf]
  constructor
  ·rintro ⟨a, b⟩; exact ⟨a.symm, b.symm⟩
  ·rintro ⟨a, b⟩; exact ⟨a.symm, b.symm⟩
theorem index_first (X Y : List UInt8) (c : UInt8) (h : c ∉ X) : Lib.index (X ++ c :: Y) [c] = (X.length : Int) := by
 refine index_at (by simp) ?_ fun j hj => ?_
 ·have := occ_at X Y [c]
  rwa [List.append_assoc] at this
 ·rw [occ_one]
  refine decide_eq_false fun he => ?_
  rw [List.getElem?_append_left hj] at he
  exact h (List.mem_of_getElem? he)
theorem index_none1 (X : List UInt8) (c : UInt8) (h : c ∉ X) : Lib.index X [c] = -1 := index_no fun j _ => by
 rw [occ_one]
 exact decide_eq_false fun he => h (List.mem_of_getElem? he)
theorem byte_first : ∀ (X Y : List UInt8) (c : UInt8), c ∉ X → Lib.indexByte (X ++ c :: Y) c = (X.length : Int)
 | [], Y, c, _ => by simp [Lib.indexByte]
 | b :: X, Y, c, h => by
  have hb : (b == c) = false := by
   rw [beq_eq_false_iff_ne]
   exact fun e => h (by simp [e])
  rw [List.cons_append, Lib.indexByte, hb, byte_first X Y c fun hx => h (by simp [hx])]
  have : ((X.length : Int) == -1) = false := by rw [beq_eq_false_iff_ne]; omega
  rw [this]
  simp
theorem byte_none : ∀ (X : List UInt8) (c : UInt8), c ∉ X → Lib.indexByte X c = -1
 | [], _, _ => rfl
 | b :: X, c, h => by
  have hb : (b == c) = false := by
   rw [beq_eq_false_iff_ne]
   exact fun e => h (by simp [e])
  rw [Lib.indexByte, hb, byte_none X c fun hx => h (by simp [hx])]
  rfl
theorem byte_some : ∀ {X : List UInt8} {c : UInt8}, c ∈ X → 0 ≤ Lib.indexByte X c
 | [], _, h => by cases h
 | b :: X, c, h => by
  rw [Lib.indexByte]
  cases hb : b == c
  ·have hx : c ∈ X := by
    rcases List.mem_cons.1 h with rfl | hx
    ·simp at hb
    ·exact hx
   have ih := byte_some hx
   have : (Lib.indexByte X c == -1) = false := by rw [beq_eq_false_iff_ne]; omega
   rw [this]
   simp only [Bool.false_eq_true, if_false]
   omega
  ·simp
theorem join_cons2 (x : List UInt8) (y : List UInt8) (r : List (List UInt8)) (c : UInt8) : Lib.join (x :: y :: r) [c] = x ++ c :: Lib.join (y :: r) [c] := by
 rw [Lib.join_cons, Lib.join_cons]
 simp [Lib.joinTail]
theorem splitK_join (c : UInt8) : ∀ (xs : List (List UInt8)), xs ≠ [] → (∀ x ∈ xs, c ∉ x) → ∀ k, xs.length ≤ k + 1 → Lib.splitK [c] 0 k (Lib.join xs [c]) = xs
 | [], h, _, _, _ => absurd rfl h
 | [x], _, hx, k, _ => by
  rw [Lib.join_one]
  cases k with
  | zero => rfl
  | succ k =>
   rw [Lib.splitK, index_none1 x c (hx x (by simp))]
   rfl
 | x :: y :: r, _, hx, k, hk => by
  cases k with
  | zero => simp at hk
  | succ k =>
   rw [join_cons2, Lib.splitK, index_first x _ c (hx x (by simp))]
   have : ((x.length : Int) == -1) = false := by rw [beq_eq_false_iff_ne]; omega
   rw [this]
   simp only [Bool.false_eq_true, if_false, Int.toNat_natCast, Nat.add_zero]
   have h1 : (x ++ c :: Lib.join (y :: r) [c]).take x.length = x := List.take_left
   have h2 : (x ++ c :: Lib.join (y :: r) [c]).drop (x.length + [c].length) = Lib.join (y :: r) [c] := by
    rw [← List.drop_drop, List.drop_left]
    rfl
   rw [h1, h2, splitK_join c (y :: r) (by simp) (fun z hz => hx z (by simp [hz])) k (by simpa using hk)]
theorem count_join (c : UInt8) : ∀ (xs : List (List UInt8)), (∀ x ∈ xs, c ∉ x) → (Lib.join xs [c]).count c + 1 = xs.length ∨ xs = []
 | [], _ => .inr rfl
 | [x], h => .inl (by rw [Lib.join_one, List.count_eq_zero.2 (h x (by simp))]; rfl)
 | x :: y :: r, h => by
  rcases count_join c (y :: r) (fun z hz => h z (by simp [hz])) with h1 | h1
  ·left
   rw [join_cons2, List.count_append, List.count_cons_self, List.count_eq_zero.2 (h x (by simp))]
   simp only [List.length_cons] at h1 ⊢
   omega
  ·cases h1
theorem split_join (c : UInt8) {xs : List (List UInt8)} (h0 : xs ≠ []) (h : ∀ x ∈ xs, c ∉ x) : splitOn ⟨(Lib.join xs [c]).toArray⟩ c = xs.map fun x => ⟨x.toArray⟩ := by
 have hd : (splitOn ⟨(Lib.join xs [c]).toArray⟩ c).map (·.data.toList) = xs := by
  unfold splitOn
  rw [Lib.splitB_data]
  have hc : Lib.countB ⟨(Lib.join xs [c]).toArray⟩ ⟨#[c]⟩ = (Lib.join xs [c]).count c := by
   have := Lib.count_one c (Lib.join xs [c])
   exact this
  rw [hc]
  rcases count_join c xs h with h1 | h1
  ·exact splitK_join c xs h0 h _ (by omega)
  ·exact absurd h1 h0
 have := congrArg (List.map fun x : List UInt8 => (⟨x.toArray⟩ : ByteArray)) hd
 rw [List.map_map] at this
 rw [← this]
 have : ((fun x : List UInt8 => (⟨x.toArray⟩ : ByteArray)) ∘ fun x : ByteArray => x.data.toList) = id := by
  funext x
  cases x
  rfl
 rw [this, List.map_id]
theorem hexD_val (d : Nat) (h : d < 16) : hexv (hexD d) = some d := by
 have : ∀ d : Fin 16, hexv (hexD d) = some d.val := by decide +kernel
 exact this ⟨d, h⟩
theorem hexD_plain (d : Nat) (h : d < 16) : plainB (hexD d) = true ∧ hexD d ≠ 58 ∧ hexD d ≠ 46 ∧ hexD d ≠ 47 := by
 have : ∀ d : Fin 16, plainB (hexD d) = true ∧ hexD d ≠ 58 ∧ hexD d ≠ 46 ∧ hexD d ≠ 47 := by decide +kernel
 exact this ⟨d, h⟩
theorem hexF_cons (d : Nat) (h : d < 16) (r : List UInt8) (a : Nat) (ha : a < 4096) : hexF (hexD d :: r) a = hexF r (a * 16 + d) := by
 rw [hexF, hexD_val d h]
 simp only
 rw [if_neg (by omega)]
theorem hex4_read (n : Nat) (h : n < 65536) : hexF (hex4 n) 0 = some n ∧ 1 ≤ (hex4 n).length ∧ (hex4 n).length ≤ 4 ∧ (∀ c ∈ hex4 n, plainB c = true ∧ c ≠ 58 ∧ c ≠ 46 ∧ c ≠ 47) := by
 have key : ∀ d : Nat, d < 16 → plainB (hexD d) = true ∧ hexD d ≠ 58 ∧ hexD d ≠ 46 ∧ hexD d ≠ 47 := hexD_plain
 unfold hex4
 by_cases h1 : n < 16
 ·rw [if_pos h1]
  refine ⟨?_, by simp, by simp, fun c hc => ?_⟩
  ·rw [hexF_cons n h1 _ _ (by omega)]
   simp [hexF]
  ·rw [List.mem_singleton] at hc
   rw [hc]
   exact key _ h1
 ·rw [if_neg h1]
  by_cases h2 : n < 256
  ·rw [if_pos h2]
   refine ⟨?_, by simp, by simp, fun c hc => ?_⟩
   ·rw [hexF_cons _ (by omega) _ _ (by omega), hexF_cons _ (by omega) _ _ (by omega)]
    simp only [hexF, Option.some.injEq]
    omega
   ·simp only [List.mem_cons, List.not_mem_nil, or_false] at hc
    rcases hc with rfl | rfl <;> exact key _ (by omega)
  ·rw [if_neg h2]
   by_cases h3 : n < 4096
   ·rw [if_pos h3]
    refine ⟨?_, by simp, by simp, fun c hc => ?_⟩
    ·rw [hexF_cons _ (by omega) _ _ (by omega), hexF_cons _ (by omega) _ _ (by omega), hexF_cons _ (by omega) _ _ (by omega)]
     simp only [hexF, Option.some.injEq]
     omega
    ·simp only [List.mem_cons, List.not_mem_nil, or_false] at hc
     rcases hc with rfl | rfl | rfl <;> exact key _ (by omega)
   ·rw [if_neg h3]
    refine ⟨?_, by simp, by simp, fun c hc => ?_⟩
    ·rw [hexF_cons _ (by omega) _ _ (by omega), hexF_cons _ (by omega) _ _ (by omega), hexF_cons _ (by omega) _ _ (by omega), hexF_cons _ (by omega) _ _ (by omega)]
     simp only [hexF, Option.some.injEq]
     omega
    ·simp only [List.mem_cons, List.not_mem_nil, or_false] at hc
     rcases hc with rfl | rfl | rfl | rfl <;> exact key _ (by omega)
theorem part_hex (n : Nat) (h : n < 65536) : partF ⟨(hex4 n).toArray⟩ 16 4 65535 = some (n : Int) := by
 obtain ⟨h1, h2, h3, h4⟩ := hex4_read n h
 unfold partF
 have hall : (hex4 n).all plainB = true := List.all_eq_true.2 fun c hc => (h4 c hc).1
 have hsz : (⟨(hex4 n).toArray⟩ : ByteArray).size = (hex4 n).length := by simp [ByteArray.size]
 rw [if_pos hall]
 have hn : numU 16 ⟨(hex4 n).toArray⟩ = some n := by
  unfold numU hexU
  rw [if_neg (by decide), if_neg (by rw [hsz]; omega)]
  exact h1
 rw [hn]
 simp only
 rw [if_neg]
 rw [hsz]
 omega
theorem part_dec (n : Nat) (h : n < 256) : partF ⟨(dec3 n).toArray⟩ 10 3 255 = some (n : Int) := by
 have : ∀ d : Fin 256, partF ⟨(dec3 d).toArray⟩ 10 3 255 = some ((d.val : Nat) : Int) := by decide +kernel
 exact this ⟨n, h⟩
theorem dec3_chars (n : Nat) (h : n < 1000) : 1 ≤ (dec3 n).length ∧ (dec3 n).length ≤ 3 ∧ ∀ c ∈ dec3 n, c ≠ 58 ∧ c ≠ 46 ∧ c ≠ 47 := by
 have : ∀ d : Fin 1000, 1 ≤ (dec3 d).length ∧ (dec3 d).length ≤ 3 ∧ (dec3 d).all (fun c => !(c == 58) && !(c == 46) && !(c == 47)) = true := by decide +kernel
 obtain ⟨a, b, c⟩ := this ⟨n, h⟩
 refine ⟨a, b, fun x hx => ?_⟩
 have := List.all_eq_true.1 c x hx
 simpa [and_assoc] using this
end Go.Ma
namespace Go.Ma
open Go
theorem shr_nat (n k : Nat) (hk : k ≤ 64) : aop .shr .u64 (n : Int) (k : Int) = ((n / 2 ^ k : Nat) : Int) := by
 simp only [aop, Int.toNat_natCast, IntKind.bits, Nat.min_eq_left hk]
 rw [show ((2 : Int) ^ k) = ((2 ^ k : Nat) : Int) by push_cast; rfl, Int.fdiv_eq_ediv_of_nonneg _ (Int.natCast_nonneg _)]
 rfl
theorem ofInt_nat (n : Nat) (h : n < 18446744073709551616) : (BitVec.ofInt 64 (n : Int)).toNat = n := by
 rw [BitVec.ofInt_natCast, BitVec.toNat_ofNat]
 exact Nat.mod_eq_of_lt (by simpa using h)
theorem and_low (n k : Nat) (hn : n < 18446744073709551616) (hk : k ≤ 63) : aop .and .u64 (n : Int) ((2 ^ k - 1 : Nat) : Int) = ((n % 2 ^ k : Nat) : Int) := by
 have hp : 2 ^ k ≤ 2 ^ 63 := Nat.pow_le_pow_right (by omega) hk
 show IntKind.u64.wrap (((BitVec.ofInt 64 (n : Int) &&& BitVec.ofInt 64 ((2 ^ k - 1 : Nat) : Int)).toNat : Nat) : Int) = _
 rw [BitVec.toNat_and, ofInt_nat n hn, ofInt_nat _ (by omega), Nat.and_two_pow_sub_one_eq_mod, wrap_u64 (by omega)]
 have := Nat.mod_le n (2 ^ k)
 omega
theorem or_low (m u k : Nat) (hu : u < 2 ^ k) (h : 2 ^ k * m + u < 18446744073709551616) : aop .or .u64 ((2 ^ k * m : Nat) : Int) (u : Int) = ((2 ^ k * m + u : Nat) : Int) := by
 show IntKind.u64.wrap (((BitVec.ofInt 64 ((2 ^ k * m : Nat) : Int) ||| BitVec.ofInt 64 (u : Int)).toNat : Nat) : Int) = _
 rw [BitVec.toNat_or, ofInt_nat _ (by omega), ofInt_nat _ (by omega), ← Nat.two_pow_add_eq_or_of_lt hu, wrap_u64 (by omega) (by omega)]
theorem shl_nat (n k : Nat) (hk : k ≤ 64) (h : 2 ^ k * n < 18446744073709551616) : aop .shl .u64 (n : Int) (k : Int) = ((2 ^ k * n : Nat) : Int) := by
 simp only [aop, Int.toNat_natCast, IntKind.bits, Nat.min_eq_left hk]
 rw [show ((2 : Int) ^ k) = ((2 ^ k : Nat) : Int) by push_cast; rfl, ← Int.natCast_mul, Nat.mul_comm, wrap_u64 (by omega) (by omega)]
def gI (a : Ad) (i : Nat) : Nat := if i < 4 then a.hi.toNat / 2 ^ (48 - 16 * i) % 65536 else a.lo.toNat / 2 ^ (112 - 16 * i) % 65536
theorem gI_lt (a : Ad) (i : Nat) : gI a i < 65536 := by
 unfold gI
 split <;> exact Nat.mod_lt _ (by omega)
theorem addr_group_eq {a : Ad} (h : a.wf) {i : Nat} (hi : i < 8) : addr_group_t a i = some ((gI a i : Int), ()) := by
 obtain ⟨h1, h2, h3, h4⟩ := h
 unfold addr_group_t gI
 have m1 : ∀ n : Nat, n < 18446744073709551616 → aop .and .u64 (n : Int) 65535 = ((n % 65536 : Nat) : Int) := fun n hn => and_low n 16 hn (by omega)
 have hq : ∀ (n k : Nat), n < 18446744073709551616 → n / 2 ^ k < 18446744073709551616 := fun n k hn => Nat.lt_of_le_of_lt (Nat.div_le_self _ _) hn
 by_cases hlt : i < 4
 ·rw [decide_eq_true (show (i : Int) < 4 by omega), br_true, req_of (i64ok_of (by omega) (by omega)), req_of (i64ok_of (by omega) (by omega)), req_of (by simp; omega), if_pos hlt]
  rw [show (48 : Int) - 16 * (i : Int) = ((48 - 16 * i : Nat) : Int) by omega]
  obtain ⟨n, hn⟩ := Int.eq_ofNat_of_zero_le h1
  rw [hn, shr_nat _ _ (by omega), m1 _ (hq _ _ (by omega))]
  rfl
 ·rw [decide_eq_false (show ¬ (i : Int) < 4 by omega), br_false, req_of (i64ok_of (by omega) (by omega)), req_of (i64ok_of (by omega) (by omega)), req_of (by simp; omega), if_neg hlt]
  rw [show (112 : Int) - 16 * (i : Int) = ((112 - 16 * i : Nat) : Int) by omega]
  obtain ⟨n, hn⟩ := Int.eq_ofNat_of_zero_le h3
  rw [hn, shr_nat _ _ (by omega), m1 _ (hq _ _ (by omega))]
  rfl
theorem row_loop {a : Ad} (h : a.wf) {f : Nat} : ∀ (N n : Nat), 8 - (f + n) < N → f + n ≤ 8 → (∀ j, j < n → gI a (f + j) = 0) →
  ∃ m, n ≤ m ∧ f + m ≤ 8 ∧ (∀ j, j < m → gI a (f + j) = 0) ∧ (f + m < 8 → gI a (f + m) ≠ 0) ∧ loopN addr_row_L2 N ((((f : Int), ()), (), ((n : Int), ()), ()), ((a, ()), ())) = some ((((m : Int), ()), ()), ())
 | 0, _, h, _, _ => by omega
 | N + 1, n, hN, h8, hz => by
  have hstep : loopN addr_row_L2 (N + 1) ((((f : Int), ()), (), ((n : Int), ()), ()), ((a, ()), ())) = addr_row_L2 (loopN addr_row_L2 N) ((((f : Int), ()), (), ((n : Int), ()), ()), ((a, ()), ())) := loopN_succ ..
  by_cases hlt : f + n < 8
  ·by_cases hg : gI a (f + n) = 0
   ·obtain ⟨m, m1, m2, m3, m4, m5⟩ := row_loop h (f := f) N (n + 1) (by omega) (by omega) (fun j hj => by
     rcases Nat.lt_or_eq_of_le (Nat.le_of_lt_succ hj) with h1 | h1
     ·exact hz j h1
     ·rw [h1]; exact hg)
    refine ⟨m, by omega, m2, m3, m4, ?_⟩
    rw [hstep]
    simp only [addr_row_L2]
    rw [req_of (i64ok_of (by omega) (by omega)), decide_eq_true (show (f : Int) + (n : Int) < 8 by omega), br_true, req_of (i64ok_of (by omega) (by omega)), show (f : Int) + (n : Int) = ((f + n : Nat) : Int) by omega, addr_group_eq h hlt, bind_s, hg]
    simp only [bind_s]
    rw [decide_eq_true (by rfl), br_true, show (n : Int) + 1 = ((n + 1 : Nat) : Int) by omega, req_of (i64ok_of (by omega) (by omega)), m5]
   ·refine ⟨n, Nat.le_refl _, h8, hz, fun _ => hg, ?_⟩
    rw [hstep]
    simp only [addr_row_L2]
    rw [req_of (i64ok_of (by omega) (by omega)), decide_eq_true (show (f : Int) + (n : Int) < 8 by omega), br_true, req_of (i64ok_of (by omega) (by omega)), show (f : Int) + (n : Int) = ((f + n : Nat) : Int) by omega, addr_group_eq h hlt, bind_s]
    simp only [bind_s]
    rw [decide_eq_false (by omega), br_false]
  ·refine ⟨n, Nat.le_refl _, h8, hz, fun h => absurd h hlt, ?_⟩
   rw [hstep]
   simp only [addr_row_L2]
   rw [req_of (i64ok_of (by omega) (by omega)), decide_eq_false (show ¬ (f : Int) + (n : Int) < 8 by omega), br_false, bind_s, br_false]
theorem row_eq {a : Ad} (h : a.wf) {f : Nat} (hf : f ≤ 8) : ∃ m : Nat, f + m ≤ 8 ∧ (∀ j, j < m → gI a (f + j) = 0) ∧ (f + m < 8 → gI a (f + m) ≠ 0) ∧ addr_row_t a f = some ((m : Int), ()) := by
 obtain ⟨m, _, m2, m3, m4, m5⟩ := row_loop h (f := f) FUEL 0 (fuel_gt (by omega)) (by omega) (fun j hj => by omega)
 refine ⟨m, m2, m3, m4, ?_⟩
 unfold addr_row_t
 have m5 : loopN addr_row_L2 FUEL ((((f : Int), ()), (), ((0 : Int), ()), ()), ((a, ()), ())) = some ((((m : Int), ()), ()), ()) := m5
 rw [m5]
 rfl
def Row0 (a : Ad) (at_ many : Nat) : Prop := at_ + many ≤ 8 ∧ ∀ j, j < many → gI a (at_ + j) = 0
theorem longest_loop {a : Ad} (h : a.wf) : ∀ (N i x m : Nat), 8 - i < N → i ≤ 8 → 1 ≤ m → (2 ≤ m → Row0 a x m) →
  ∃ x' m' : Nat, 1 ≤ m' ∧ (2 ≤ m' → Row0 a x' m') ∧ loopN zq4 N (((), ((x : Int), ()), ((m : Int), ()), ((i : Int), ()), ()), ((a, ()), ())) = some ((((x' : Int), ()), ((m' : Int), ()), ()), ())
 | 0, _, _, _, h, _, _, _ => by omega
 | N + 1, i, x, m, hN, h8, hm, hr => by
  have hstep : loopN zq4 (N + 1) (((), ((x : Int), ()), ((m : Int), ()), ((i : Int), ()), ()), ((a, ()), ())) = zq4 (loopN zq4 N) (((), ((x : Int), ()), ((m : Int), ()), ((i : Int), ()), ()), ((a, ()), ())) := loopN_succ ..
  by_cases hlt : i < 8
  ·obtain ⟨n, n1, n2, n3, n4⟩ := row_eq h (f := i) h8
   by_cases hg : m < n
   ·obtain ⟨x', m', q1, q2, q3⟩ := longest_loop h N (i + 1) i n (by omega) (by omega) (by omega) (fun _ => ⟨n1, n2⟩)
    refine ⟨x', m', q1, q2, ?_⟩
    rw [hstep]
    simp only [zq4]
    rw [decide_eq_true (show (i : Int) < 8 by omega), br_true, n4, bind_s]
    simp only []
    rw [decide_eq_true (show (n : Int) > (m : Int) by omega), br_true, show (i : Int) + 1 = ((i + 1 : Nat) : Int) by omega, req_of (i64ok_of (by omega) (by omega)), q3]
   ·obtain ⟨x', m', q1, q2, q3⟩ := longest_loop h N (i + 1) x m (by omega) (by omega) hm hr
    refine ⟨x', m', q1, q2, ?_⟩
    rw [hstep]
    simp only [zq4]
    rw [decide_eq_true (show (i : Int) < 8 by omega), br_true, n4, bind_s]
    simp only []
    rw [decide_eq_false (show ¬ (n : Int) > (m : Int) by omega), br_false, show (i : Int) + 1 = ((i + 1 : Nat) : Int) by omega, req_of (i64ok_of (by omega) (by omega)), q3]
  ·refine ⟨x, m, hm, hr, ?_⟩
   rw [hstep]
   simp only [zq4]
   rw [decide_eq_false (show ¬ (i : Int) < 8 by omega), br_false]
theorem longest_eq {a : Ad} (h : a.wf) : addr_longest_t a = some (0, 0, ()) ∨ ∃ x m : Nat, 2 ≤ m ∧ Row0 a x m ∧ addr_longest_t a = some ((x : Int), (m : Int), ()) := by
 obtain ⟨x, m, q1, q2, q3⟩ := longest_loop h FUEL 0 0 1 (fuel_gt (by omega)) (by omega) (by omega) (fun h => by omega)
 have q3 : loopN zq4 FUEL (((), ((0 : Int), ()), ((1 : Int), ()), ((0 : Int), ()), ()), ((a, ()), ())) = some ((((x : Int), ()), ((m : Int), ()), ()), ()) := q3
 unfold addr_longest_t
 rw [q3, bind_s]
 simp only []
 by_cases h2 : m < 2
 ·left
  rw [decide_eq_true (show (m : Int) < 2 by omega), br_true]
 ·right
  refine ⟨x, m, by omega, q2 (by omega), ?_⟩
  rw [decide_eq_false (show ¬ (m : Int) < 2 by omega), br_false]
def hexA (n : Nat) : ByteArray := ⟨(hex4 n).toArray⟩
def joinG (gs : List Nat) : List UInt8 := Lib.join (gs.map hex4) [58]
theorem join_len (c : UInt8) (k : Nat) : ∀ xs : List (List UInt8), (∀ x ∈ xs, x.length ≤ k) → (Lib.join xs [c]).length ≤ (k + 1) * xs.length
 | [], _ => by simp [Lib.join_nil]
 | [x], h => by
  rw [Lib.join_one]
  have := h x (by simp)
  simp
  omega
 | x :: y :: r, h => by
  have h1 := h x (by simp)
  have h2 := join_len c k (y :: r) (fun z hz => h z (by simp [hz]))
  rw [join_cons2]
  simp only [List.length_append, List.length_cons] at h2 ⊢
  rw [Nat.mul_add (k + 1) (r.length + 1) 1]
  omega
theorem joinG_len {gs : List Nat} (h : ∀ g ∈ gs, g < 65536) : (joinG gs).length ≤ 5 * gs.length := by
 have := join_len 58 4 (gs.map hex4) fun x hx => by
  obtain ⟨g, hg, rfl⟩ := List.mem_map.1 hx
  exact (hex4_read g (h g hg)).2.2.1
 rwa [List.length_map] at this
theorem Join_eq {l : List ByteArray} {c : UInt8} (h1 : l.length ≤ 1024) (h2 : (Lib.join (l.map (·.data.toList)) [c]).length ≤ 1099511627776) : strings_Join_t l ⟨#[c]⟩ = some (⟨(Lib.join (l.map (·.data.toList)) [c]).toArray⟩, ()) := by
 unfold strings_Join_t
 rw [req_of]
 rw [Bool.and_eq_true]
 exact ⟨Nat.ble_eq_true_of_le h1, Nat.ble_eq_true_of_le h2⟩
theorem hexA_fmt {g : Nat} (h : g < 65536) : zq34 (g : Int) 16 = some (hexA g, ()) := by
 unfold zq34
 rw [if_pos rfl, req_of (by simp; omega)]
 rfl
theorem groups_loop {a : Ad} (h : a.wf) {t : Nat} (ht : t ≤ 8) : ∀ (N i : Nat) (out : List ByteArray), t - i < N → i ≤ t → out.length ≤ i →
  loopN addr_groups_L3 N ((((t : Int), ()), (), (), ((i : Int), ()), ()), ((a, ()), out, ())) = some (((), ()), (out ++ (List.range' i (t - i)).map (fun j => hexA (gI a j)), ()))
 | 0, _, _, h, _, _ => by omega
 | N + 1, i, out, hN, hi, ho => by
  rw [loopN_succ]
  simp only [addr_groups_L3]
  by_cases hlt : i < t
  ·rw [decide_eq_true (show (i : Int) < (t : Int) by omega), br_true, addr_group_eq h (by omega), bind_s]
   simp only []
   rw [hexA_fmt (gI_lt a i), bind_s, req_of (room_of (zq11 _) (zq11 _) (by unfold lenL; simp only [List.length_cons, List.length_nil]; omega)), show (i : Int) + 1 = ((i + 1 : Nat) : Int) by omega, req_of (i64ok_of (by omega) (by omega))]
   rw [groups_loop h ht N (i + 1) _ (by omega) (by omega) (by simp; omega), show t - i = (t - (i + 1)) + 1 by omega, List.range'_succ, List.map_cons, List.append_assoc]
   rfl
  ·have : i = t := by omega
   subst this
   rw [decide_eq_false (show ¬ (i : Int) < (i : Int) by omega), br_false, Nat.sub_self]
   simp
theorem groups_eq {a : Ad} (h : a.wf) {f t : Nat} (ht : t ≤ 8) (hf : f ≤ t) : zq3 a f t = some (⟨(joinG ((List.range' f (t - f)).map (gI a))).toArray⟩, ()) := by
 unfold zq3
 rw [groups_loop h ht FUEL f [] (fuel_gt (by omega)) hf (by simp), bind_s]
 have e : (((List.range' f (t - f)).map (fun j => hexA (gI a j))).map (·.data.toList)) = ((List.range' f (t - f)).map (gI a)).map hex4 := by
  rw [List.map_map, List.map_map]
  rfl
 have hl := joinG_len (gs := (List.range' f (t - f)).map (gI a)) (fun g hg => by
  obtain ⟨i, _, rfl⟩ := List.mem_map.1 hg
  exact gI_lt a i)
 unfold joinG at hl
 rw [List.nil_append, Join_eq (by simp; omega) (by rw [e]; simp at hl ⊢; omega), e, bind_s]
 rfl
def gsA (a : Ad) : List Nat := (List.range 8).map (gI a)
def Six (a : Ad) (T : List UInt8) : Prop := T = joinG (gsA a) ∨ ∃ x m : Nat, 2 ≤ m ∧ Row0 a x m ∧ T = joinG ((gsA a).take x) ++ [58, 58] ++ joinG ((gsA a).drop (x + m))
theorem gsA_take (a : Ad) {x : Nat} (h : x ≤ 8) : (gsA a).take x = (List.range' 0 (x - 0)).map (gI a) := by
 unfold gsA
 rw [← List.map_take, List.range_eq_range', Nat.sub_zero]
 congr 1
 have := List.range'_append_1 (s := 0) (m := x) (n := 8 - x)
 rw [Nat.zero_add, show x + (8 - x) = 8 by omega] at this
 rw [← this, List.take_left' (by simp)]
theorem gsA_drop (a : Ad) {x : Nat} (h : x ≤ 8) : (gsA a).drop x = (List.range' x (8 - x)).map (gI a) := by
 unfold gsA
 rw [← List.map_drop, List.range_eq_range', List.drop_range']
 simp
theorem gsA_lt (a : Ad) : ∀ g ∈ gsA a, g < 65536 := fun g hg => by
 obtain ⟨i, _, rfl⟩ := List.mem_map.1 hg
 exact gI_lt a i
theorem cat_lists (A B : List UInt8) : catS ⟨A.toArray⟩ ⟨B.toArray⟩ = (⟨(A ++ B).toArray⟩ : ByteArray) := by
 apply ByteArray.ext
 simp [catS]
theorem room_list (A : List UInt8) (hA : A.length ≤ 9223372036854775807) : roomS ⟨A.toArray⟩ = true := by
 unfold roomS
 exact Nat.ble_eq_true_of_le (by simpa [ByteArray.size] using hA)
noncomputable def textOf6 (a : Ad) (y : Int × Int × Unit) : Option (ByteArray × Unit) :=
 br (decide (y.2.1 = 0))
   ((zq3 a 0 8).bind fun y2 =>
   some (y2.1, ()))
   ((zq3 a 0 y.1).bind fun y2 =>
   req (roomS (catS y2.1 (⟨#[58, 58]⟩ : ByteArray))) <|
   req (i64ok (y.1 + y.2.1)) <|
   (zq3 a (y.1 + y.2.1) 8).bind fun y3 =>
   req (roomS (catS (catS y2.1 (⟨#[58, 58]⟩ : ByteArray)) y3.1)) <|
   some (catS (catS y2.1 (⟨#[58, 58]⟩ : ByteArray)) y3.1, ()))
theorem text_of6 {a : Ad} (hv : a.v6 = true) : addr_Text_t a = (addr_longest_t a).bind (textOf6 a) := by
 unfold addr_Text_t textOf6
 rw [hv, Bool.not_true, br_false]
theorem textOf6_none {a : Ad} (h : a.wf) : textOf6 a (0, 0, ()) = some (⟨(joinG (gsA a)).toArray⟩, ()) := by
 have := groups_eq h (f := 0) (t := 8) (by omega) (by omega)
 rw [← gsA_take a (Nat.le_refl 8), show (gsA a).take 8 = gsA a from List.take_of_length_le (by simp [gsA]), Int.natCast_zero, show ((8 : Nat) : Int) = 8 from rfl] at this
 unfold textOf6
 rw [show decide ((0, 0, ()).2.1 = (0 : Int)) = true from rfl, br_true, this, bind_s]
theorem textOf6_some {a : Ad} (h : a.wf) {x m : Nat} (m1 : 2 ≤ m) (m2 : Row0 a x m) : textOf6 a ((x : Int), (m : Int), ()) = some (⟨(joinG ((gsA a).take x) ++ [58, 58] ++ joinG ((gsA a).drop (x + m))).toArray⟩, ()) := by
 obtain ⟨r1, r2⟩ := m2
 have g1 : zq3 a 0 (x : Int) = some (⟨(joinG ((gsA a).take x)).toArray⟩, ()) := by
  have := groups_eq h (f := 0) (t := x) (by omega) (by omega)
  rw [← gsA_take a (by omega), Int.natCast_zero] at this
  exact this
 have g2 : zq3 a ((x : Int) + (m : Int)) 8 = some (⟨(joinG ((gsA a).drop (x + m))).toArray⟩, ()) := by
  have := groups_eq h (f := x + m) (t := 8) (by omega) r1
  rw [← gsA_drop a r1, show ((8 : Nat) : Int) = 8 from rfl] at this
  rw [show (x : Int) + (m : Int) = ((x + m : Nat) : Int) by omega]
  exact this
 have l1 := joinG_len (gs := (gsA a).take x) (fun g hg => gsA_lt a g (List.mem_of_mem_take hg))
 have l2 := joinG_len (gs := (gsA a).drop (x + m)) (fun g hg => gsA_lt a g (List.mem_of_mem_drop hg))
 have l3 : ((gsA a).take x).length ≤ 8 := by simp [gsA]; omega
 have l4 : ((gsA a).drop (x + m)).length ≤ 8 := by simp [gsA]
 unfold textOf6
 generalize joinG ((gsA a).take x) = A at g1 l1 ⊢
 generalize joinG ((gsA a).drop (x + m)) = B at g2 l2 ⊢
 rw [show decide (((x : Int), (m : Int), ()).2.1 = (0 : Int)) = false from decide_eq_false (by show ¬ (m : Int) = 0; omega), br_false]
 show (zq3 a 0 (x : Int)).bind _ = _
 rw [g1, bind_s, show (⟨#[58, 58]⟩ : ByteArray) = ⟨([58, 58] : List UInt8).toArray⟩ from rfl, cat_lists, req_of (room_list _ (by simp; omega)), req_of (i64ok_of (by show (-9223372036854775808 : Int) ≤ (x : Int) + (m : Int); omega) (by show (x : Int) + (m : Int) < 9223372036854775808; omega))]
 show (zq3 a ((x : Int) + (m : Int)) 8).bind _ = _
 rw [g2, bind_s, cat_lists, req_of (room_list _ (by simp; omega))]
theorem text6 {a : Ad} (h : a.wf) (hv : a.v6 = true) : ∃ T : List UInt8, addr_Text_t a = some (⟨T.toArray⟩, ()) ∧ Six a T := by
 rw [text_of6 hv]
 rcases longest_eq h with h1 | ⟨x, m, m1, m2, m3⟩
 ·refine ⟨joinG (gsA a), ?_, .inl rfl⟩
  rw [h1, bind_s, textOf6_none h]
 ·refine ⟨joinG ((gsA a).take x) ++ [58, 58] ++ joinG ((gsA a).drop (x + m)), ?_, .inr ⟨x, m, m1, m2, rfl⟩⟩
  rw [m3, bind_s, textOf6_some h m1 m2]
def text4 (n : Nat) : List UInt8 := Lib.join [dec3 (n / 2 ^ 24 % 256), dec3 (n / 2 ^ 16 % 256), dec3 (n / 2 ^ 8 % 256), dec3 (n % 256)] [46]
theorem dec_fmt {n : Nat} (h : n < 256) : zq34 (n : Int) 10 = some (⟨(dec3 n).toArray⟩, ()) := by
 unfold zq34
 rw [if_neg (by decide), req_of (by simp; omega)]
 rfl
theorem text_v4 {a : Ad} (h : a.wf) (hv : a.v6 = false) : addr_Text_t a = some (⟨(text4 a.lo.toNat).toArray⟩, ()) := by
 obtain ⟨h1, h2, h3, h4⟩ := h
 obtain ⟨n, hn⟩ := Int.eq_ofNat_of_zero_le h3
 have hn2 : n < 18446744073709551616 := by omega
 unfold addr_Text_t
 rw [hv, Bool.not_false, br_true]
 have hb : ∀ k : Nat, k ≤ 64 → zq34 (aop .and .u64 (aop .shr .u64 a.lo (k : Int)) 255) 10 = some (⟨(dec3 (n / 2 ^ k % 256)).toArray⟩, ()) := fun k hk => by
  rw [hn, shr_nat _ _ hk]
  have := and_low (n / 2 ^ k) 8 (Nat.lt_of_le_of_lt (Nat.div_le_self _ _) hn2) (by omega)
  rw [show (255 : Int) = ((2 ^ 8 - 1 : Nat) : Int) from rfl, this]
  exact dec_fmt (Nat.mod_lt _ (by omega))
 have b24 := hb 24 (by omega)
 have b16 := hb 16 (by omega)
 have b8 := hb 8 (by omega)
 have b0 := hb 0 (by omega)
 rw [show ((24 : Nat) : Int) = 24 from rfl] at b24
 rw [show ((16 : Nat) : Int) = 16 from rfl] at b16
 rw [show ((8 : Nat) : Int) = 8 from rfl] at b8
 rw [show ((0 : Nat) : Int) = 0 from rfl, Nat.pow_zero, Nat.div_one] at b0
 have hl : loopN addr_Text_L4 FUEL (((), (), (24, ()), ()), ((a, ()), ([] : List ByteArray), ())) = some (((), ()), ([⟨(dec3 (n / 2 ^ 24 % 256)).toArray⟩, ⟨(dec3 (n / 2 ^ 16 % 256)).toArray⟩, ⟨(dec3 (n / 2 ^ 8 % 256)).toArray⟩, ⟨(dec3 (n % 256)).toArray⟩], ())) := by
  rw [show FUEL = (FUEL - 5) + 1 + 1 + 1 + 1 + 1 from rfl]
  generalize FUEL - 5 = N
  have room1 : ∀ (l : List ByteArray) (x : ByteArray), l.length ≤ 8 → room (lenL l) (lenL [x]) = true := fun l x hl => room_of (zq11 _) (zq11 _) (by unfold lenL; simp only [List.length_cons, List.length_nil]; omega)
  rw [loopN_succ]
  simp only [addr_Text_L4]
  rw [decide_eq_true (show (24 : Int) ≥ 0 by omega), br_true, req_of (by rfl), b24, bind_s, req_of (room1 _ _ (by simp)), req_of (by rfl), show (24 : Int) - 8 = 16 from rfl, loopN_succ]
  simp only [addr_Text_L4]
  rw [decide_eq_true (show (16 : Int) ≥ 0 by omega), br_true, req_of (by rfl), b16, bind_s, req_of (room1 _ _ (by simp)), req_of (by rfl), show (16 : Int) - 8 = 8 from rfl, loopN_succ]
  simp only [addr_Text_L4]
  rw [decide_eq_true (show (8 : Int) ≥ 0 by omega), br_true, req_of (by rfl), b8, bind_s, req_of (room1 _ _ (by simp)), req_of (by rfl), show (8 : Int) - 8 = 0 from rfl, loopN_succ]
  simp only [addr_Text_L4]
  rw [decide_eq_true (show (0 : Int) ≥ 0 by omega), br_true, req_of (by rfl), b0, bind_s, req_of (room1 _ _ (by simp)), req_of (by rfl), show (0 : Int) - 8 = -8 from rfl, loopN_succ]
  simp only [addr_Text_L4]
  rw [decide_eq_false (show ¬ (-8 : Int) ≥ 0 by omega), br_false]
  rfl
 rw [hl, bind_s]
 have hlen := join_len 46 3 [dec3 (n / 2 ^ 24 % 256), dec3 (n / 2 ^ 16 % 256), dec3 (n / 2 ^ 8 % 256), dec3 (n % 256)] (fun x hx => by
  simp only [List.mem_cons, List.not_mem_nil, or_false] at hx
  rcases hx with rfl | rfl | rfl | rfl <;> exact (dec3_chars _ (by omega)).2.1)
 simp only []
 rw [Join_eq (by simp) (by simp only [List.map_cons, List.map_nil]; simp at hlen ⊢; omega), bind_s]
 simp only [List.map_cons, List.map_nil]
 rw [hn]
 rfl
end Go.Ma
namespace Go.Ma
open Go
theorem noCC (c : UInt8) : ∀ xs : List (List UInt8), (∀ x ∈ xs, x ≠ [] ∧ c ∉ x) → ∀ (R : List UInt8) (j : Nat), j < (Lib.join xs [c]).length → ¬ ((Lib.join xs [c] ++ R)[j]? = some c ∧ (Lib.join xs [c] ++ R)[j + 1]? = some c)
 | [], _, R, j, hj => by simp [Lib.join_nil] at hj
 | [x], h, R, j, hj => by
  rw [Lib.join_one] at hj ⊢
  rintro ⟨h1, _⟩
  rw [List.getElem?_append_left hj] at h1
  exact (h x (by simp)).2 (List.mem_of_getElem? h1)
 | x :: y :: r, h, R, j, hj => by
  rw [join_cons2] at hj ⊢
  rintro ⟨h1, h2⟩
  rw [List.append_assoc] at h1 h2
  rcases Nat.lt_trichotomy j x.length with hlt | he | hgt
  ·rw [List.getElem?_append_left hlt] at h1
   exact (h x (by simp)).2 (List.mem_of_getElem? h1)
  ·subst he
   rw [List.getElem?_append_right (by omega), show x.length + 1 - x.length = 0 + 1 by omega, List.cons_append, List.getElem?_cons_succ] at h2
   obtain ⟨hy, hc⟩ := h y (by simp)
   cases hyy : y with
   | nil => exact hy hyy
   | cons b t =>
    have hb : b ≠ c := fun e => hc (by rw [hyy, e]; simp)
    have : (Lib.join (y :: r) [c] ++ R)[0]? = some b := by
     cases r with
     | nil => rw [Lib.join_one, hyy]; rfl
     | cons z r => rw [join_cons2, hyy]; rfl
    rw [this] at h2
    injection h2 with h2
    exact hb h2
  ·obtain ⟨k, rfl⟩ : ∃ k, j = x.length + 1 + k := ⟨j - x.length - 1, by omega⟩
   rw [List.getElem?_append_right (by omega), show x.length + 1 + k - x.length = k + 1 by omega, List.cons_append, List.getElem?_cons_succ] at h1
   rw [List.getElem?_append_right (by omega), show x.length + 1 + k + 1 - x.length = (k + 1) + 1 by omega, List.cons_append, List.getElem?_cons_succ] at h2
   exact noCC c (y :: r) (fun z hz => h z (by simp [hz])) R k (by simp only [List.length_append, List.length_cons] at hj; omega) ⟨h1, h2⟩
theorem hexs_ok {gs : List Nat} (h : ∀ g ∈ gs, g < 65536) : ∀ x ∈ gs.map hex4, x ≠ [] ∧ (58 : UInt8) ∉ x ∧ (46 : UInt8) ∉ x ∧ (47 : UInt8) ∉ x := fun x hx => by
 obtain ⟨g, hg, rfl⟩ := List.mem_map.1 hx
 obtain ⟨_, h2, _, h4⟩ := hex4_read g (h g hg)
 exact ⟨fun e => by rw [e] at h2; simp at h2, fun hc => (h4 _ hc).2.1 rfl, fun hc => (h4 _ hc).2.2.1 rfl, fun hc => (h4 _ hc).2.2.2 rfl⟩
theorem join_mem (c d : UInt8) : ∀ xs : List (List UInt8), d ∈ Lib.join xs [c] → (∃ x ∈ xs, d ∈ x) ∨ (d = c ∧ 2 ≤ xs.length)
 | [], h => by simp [Lib.join_nil] at h
 | [x], h => by rw [Lib.join_one] at h; exact .inl ⟨x, by simp, h⟩
 | x :: y :: r, h => by
  rw [join_cons2] at h
  rcases List.mem_append.1 h with h | h
  ·exact .inl ⟨x, by simp, h⟩
  ·rcases List.mem_cons.1 h with h | h
   ·exact .inr ⟨h, by simp⟩
   ·rcases join_mem c d (y :: r) h with ⟨z, hz, hd⟩ | ⟨e, _⟩
    ·exact .inl ⟨z, by simp [hz], hd⟩
    ·exact .inr ⟨e, by simp⟩
theorem sixteen_some : ∀ (gs : List Nat), (∀ g ∈ gs, g < 65536) → ∀ (last : Bool) (len i : Nat) (out : List Int), someL last len (gs.map hexA) i out = some (out ++ gs.map fun (g : Nat) => (g : Int))
 | [], _, _, _, _, out => by simp [someL]
 | g :: r, h, last, len, i, out => by
  have hd : dotIn (hexA g) = false := by
   unfold dotIn
   have := byte_none (hex4 g) 46 (hexs_ok (gs := [g]) (by simpa using h g (by simp)) _ (by simp)).2.2.1
   rw [show (hexA g).data.toList = hex4 g from rfl, this]
   rfl
  rw [List.map_cons, someL, hd, if_neg (by simp), part_hex' g (h g (by simp))]
  simp only
  rw [sixteen_some r (fun x hx => h x (by simp [hx])) last len (i + 1), List.map_cons, List.append_assoc]
  rfl
 where part_hex' (g : Nat) (h : g < 65536) : partF (hexA g) 16 4 65535 = some (g : Int) := part_hex g h
theorem joinG_split {gs : List Nat} (h0 : gs ≠ []) (h : ∀ g ∈ gs, g < 65536) : splitOn ⟨(joinG gs).toArray⟩ 58 = gs.map hexA := by
 unfold joinG
 rw [split_join 58 (by simpa using h0) fun x hx => (hexs_ok h x hx).2.1, List.map_map]
 rfl
theorem joinG_some {gs : List Nat} (h : ∀ g ∈ gs, g < 65536) (last : Bool) : someF ⟨(joinG gs).toArray⟩ last = some (gs.map fun (g : Nat) => (g : Int)) := by
 by_cases h0 : gs = []
 ·subst h0
  rfl
 ·have hpos : 0 < (joinG gs).length := by
   unfold joinG
   match gs, h0 with
   | g :: r, _ =>
    have := (hexs_ok h (hex4 g) (by simp)).1
    have hp : 0 < (hex4 g).length := List.length_pos_iff.2 this
    cases r with
    | nil => rw [List.map_cons, List.map_nil, Lib.join_one]; exact hp
    | cons g2 r => rw [List.map_cons, List.map_cons, join_cons2]; simp only [List.length_append]; omega
  unfold someF
  rw [if_neg (by simp [ByteArray.size]; intro e; rw [e] at hpos; simp at hpos), joinG_split h0 h, sixteen_some gs h]
  simp
theorem packI_nat : ∀ (gs : List Nat) (n : Nat), (∀ g ∈ gs, g < 65536) → (n + 1) * 65536 ^ gs.length ≤ 18446744073709551616 → packI (gs.map fun (g : Nat) => (g : Int)) (n : Int) = ((gs.foldl (fun n g => n * 65536 + g) n : Nat) : Int)
 | [], n, _, _ => rfl
 | g :: r, n, h, hn => by
  have hg := h g (by simp)
  have h1 : (n + 1) * 65536 * 65536 ^ r.length ≤ 18446744073709551616 := by rw [List.length_cons, Nat.pow_succ, Nat.mul_comm (65536 ^ r.length) 65536, ← Nat.mul_assoc] at hn; exact hn
  have h2 : 1 ≤ 65536 ^ r.length := Nat.pow_pos (by omega)
  have h3 : (n + 1) * 65536 ≤ 18446744073709551616 := Nat.le_trans (by simpa using Nat.mul_le_mul_left ((n + 1) * 65536) h2) h1
  rw [List.map_cons, packI, List.foldl_cons]
  have hs : aop .shl .u64 (n : Int) 16 = ((2 ^ 16 * n : Nat) : Int) := shl_nat n 16 (by omega) (by omega)
  rw [hs, or_low n g 16 (by omega) (by omega), show 2 ^ 16 * n + g = n * 65536 + g by omega]
  refine packI_nat r (n * 65536 + g) (fun x hx => h x (by simp [hx])) (Nat.le_trans (Nat.mul_le_mul_right _ ?_) h1)
  omega
theorem packA_gs {a : Ad} (h : a.wf) (hv : a.v6 = true) : packA ((gsA a).map fun (g : Nat) => (g : Int)) = a := by
 obtain ⟨h1, h2, h3, h4⟩ := h
 have e : gsA a = [gI a 0, gI a 1, gI a 2, gI a 3, gI a 4, gI a 5, gI a 6, gI a 7] := rfl
 have hp : ∀ b c d f : Nat, b < 65536 → c < 65536 → d < 65536 → f < 65536 → packI ([b, c, d, f].map fun (g : Nat) => (g : Int)) 0 = ((((b * 65536 + c) * 65536 + d) * 65536 + f : Nat) : Int) := fun b c d f hb hc hd hf => by
  have := packI_nat [b, c, d, f] 0 (by simp; omega) (by simp)
  simp only [List.foldl_cons, List.foldl_nil, Nat.zero_mul, Nat.zero_add] at this
  exact this
 unfold packA
 rw [e]
 have e1 : (([gI a 0, gI a 1, gI a 2, gI a 3, gI a 4, gI a 5, gI a 6, gI a 7].map fun (g : Nat) => (g : Int)).take 4) = ([gI a 0, gI a 1, gI a 2, gI a 3].map fun (g : Nat) => (g : Int)) := rfl
 have e2 : ((([gI a 0, gI a 1, gI a 2, gI a 3, gI a 4, gI a 5, gI a 6, gI a 7].map fun (g : Nat) => (g : Int)).drop 4).take 4) = ([gI a 4, gI a 5, gI a 6, gI a 7].map fun (g : Nat) => (g : Int)) := rfl
 rw [e1, e2, hp _ _ _ _ (gI_lt a 0) (gI_lt a 1) (gI_lt a 2) (gI_lt a 3), hp _ _ _ _ (gI_lt a 4) (gI_lt a 5) (gI_lt a 6) (gI_lt a 7)]
 obtain ⟨v, hi, lo⟩ := a
 simp only at h1 h2 h3 h4 hv
 subst hv
 obtain ⟨n, rfl⟩ := Int.eq_ofNat_of_zero_le h1
 obtain ⟨k, rfl⟩ := Int.eq_ofNat_of_zero_le h3
 simp only [gI, Int.toNat_natCast]
 congr 2 <;> simp <;> omega
theorem cut_at {s : List UInt8} {k : Nat} (hk : k ≤ s.length) (h : Lib.occAt s [58, 58] k = true) (hn : ∀ j, j < k → Lib.occAt s [58, 58] j = false) : Lib.cut s [58, 58] = (s.take k, s.drop (k + 2), true) := by
 unfold Lib.cut
 rw [index_at hk h hn]
 simp
theorem cut_no {s : List UInt8} (hn : ∀ j, j ≤ s.length → Lib.occAt s [58, 58] j = false) : Lib.cut s [58, 58] = (s, [], false) := by
 unfold Lib.cut
 rw [index_no hn]
 rfl
theorem colonIn_of {s : List UInt8} (h : (58 : UInt8) ∈ s) : colonIn ⟨s.toArray⟩ = true := decide_eq_true (byte_some h)
theorem colonIn_no {s : List UInt8} (h : (58 : UInt8) ∉ s) : colonIn ⟨s.toArray⟩ = false := decide_eq_false (by rw [show (⟨s.toArray⟩ : ByteArray).data.toList = s from rfl, byte_none s 58 h]; omega)
theorem join_colon : ∀ (x y : List UInt8) (r : List (List UInt8)) (c : UInt8), c ∈ Lib.join (x :: y :: r) [c] := fun x y r c => by
 rw [join_cons2]
 simp
theorem six_none {a : Ad} (h : a.wf) (hv : a.v6 = true) : toldF ⟨(joinG (gsA a)).toArray⟩ = some a := by
 have hg := gsA_lt a
 have hc : (58 : UInt8) ∈ joinG (gsA a) := join_colon _ _ _ 58
 unfold toldF
 rw [if_pos (colonIn_of hc)]
 have hcut : Lib.cut (joinG (gsA a)) [58, 58] = (joinG (gsA a), [], false) := cut_no fun j hj => by
  rw [occ_two]
  by_cases hlt : j < (joinG (gsA a)).length
  ·have := noCC 58 ((gsA a).map hex4) (fun x hx => ⟨(hexs_ok hg x hx).1, (hexs_ok hg x hx).2.1⟩) [] j hlt
   rw [List.append_nil] at this
   rw [Bool.and_eq_false_iff, decide_eq_false_iff_not, decide_eq_false_iff_not]
   exact Classical.not_and_iff_not_or_not.1 this
  ·rw [List.getElem?_eq_none (by omega)]
   rfl
 unfold sixteenF
 have h3 : cut3 ⟨(joinG (gsA a)).toArray⟩ = false := by unfold cut3; rw [show (⟨(joinG (gsA a)).toArray⟩ : ByteArray).data.toList = joinG (gsA a) from rfl, hcut]
 rw [h3, if_neg (by simp), joinG_some hg]
 simp only
 rw [if_pos (by simp [gsA]), packA_gs h hv]
theorem gs_zeros {a : Ad} {x m : Nat} (h : Row0 a x m) : gsA a = (gsA a).take x ++ List.replicate m 0 ++ (gsA a).drop (x + m) := by
 obtain ⟨h1, h2⟩ := h
 apply List.ext_getElem?
 intro i
 have hl : (gsA a).length = 8 := by simp [gsA]
 have hg : ∀ i, i < 8 → (gsA a)[i]? = some (gI a i) := fun i hi => by simp [gsA, hi]
 by_cases c1 : i < x
 ·rw [List.append_assoc, List.getElem?_append_left (by simp [hl]; omega), List.getElem?_take, if_pos c1]
 ·by_cases c2 : i < x + m
  ·rw [List.getElem?_append_left (by simp [hl]; omega), List.getElem?_append_right (by simp [hl]; omega)]
   rw [hg i (by omega)]
   have := h2 (i - x) (by omega)
   rw [show x + (i - x) = i by omega] at this
   rw [this, List.getElem?_replicate, if_pos (by simp [hl]; omega)]
  ·rw [List.getElem?_append_right (by simp [hl]; omega), List.getElem?_drop]
   congr 1
   simp [hl]
   omega
theorem six_some {a : Ad} (h : a.wf) (hv : a.v6 = true) {x m : Nat} (m1 : 2 ≤ m) (hr : Row0 a x m) : toldF ⟨(joinG ((gsA a).take x) ++ [58, 58] ++ joinG ((gsA a).drop (x + m))).toArray⟩ = some a := by
 have hg := gsA_lt a
 have hga : ∀ g ∈ (gsA a).take x, g < 65536 := fun g hx => hg g (List.mem_of_mem_take hx)
 have hgb : ∀ g ∈ (gsA a).drop (x + m), g < 65536 := fun g hx => hg g (List.mem_of_mem_drop hx)
 have hx8 : x + m ≤ 8 := hr.1
 have hl : (gsA a).length = 8 := by simp [gsA]
 have hla : ((gsA a).take x).length = x := by rw [List.length_take, hl]; omega
 have hlb : ((gsA a).drop (x + m)).length = 8 - (x + m) := by rw [List.length_drop, hl]
 have hz := gs_zeros hr
 have hcut : Lib.cut (joinG ((gsA a).take x) ++ [58, 58] ++ joinG ((gsA a).drop (x + m))) [58, 58] = (joinG ((gsA a).take x), joinG ((gsA a).drop (x + m)), true) := by
  have := cut_at (s := joinG ((gsA a).take x) ++ [58, 58] ++ joinG ((gsA a).drop (x + m))) (k := (joinG ((gsA a).take x)).length) (by simp only [List.length_append]; omega) (occ_at _ _ _) fun j hj => by
   rw [occ_two]
   have := noCC 58 (((gsA a).take x).map hex4) (fun y hy => ⟨(hexs_ok hga y hy).1, (hexs_ok hga y hy).2.1⟩) ([58, 58] ++ joinG ((gsA a).drop (x + m))) j hj
   rw [← List.append_assoc] at this
   rw [Bool.and_eq_false_iff, decide_eq_false_iff_not, decide_eq_false_iff_not]
   exact Classical.not_and_iff_not_or_not.1 this
  rw [this]
  congr 1
  ·rw [List.append_assoc, List.take_left]
  ·congr 1
   rw [← List.drop_drop, List.append_assoc, List.drop_left]
   rfl
 generalize hA : joinG ((gsA a).take x) = A at hcut ⊢
 generalize hB : joinG ((gsA a).drop (x + m)) = B at hcut ⊢
 have hc : (58 : UInt8) ∈ A ++ [58, 58] ++ B := by simp
 unfold toldF
 rw [if_pos (colonIn_of hc)]
 unfold sixteenF
 have e : (⟨(A ++ [58, 58] ++ B).toArray⟩ : ByteArray).data.toList = A ++ [58, 58] ++ B := rfl
 have h3 : cut3 ⟨(A ++ [58, 58] ++ B).toArray⟩ = true := by unfold cut3; rw [e, hcut]
 have h1 : cut1 ⟨(A ++ [58, 58] ++ B).toArray⟩ = ⟨A.toArray⟩ := by unfold cut1; rw [e, hcut]
 have h2 : cut2 ⟨(A ++ [58, 58] ++ B).toArray⟩ = ⟨B.toArray⟩ := by unfold cut2; rw [e, hcut]
 rw [h3, if_pos rfl, h1, h2, ← hA, ← hB, joinG_some hga, joinG_some hgb]
 simp only [List.length_map, hla, hlb]
 rw [if_neg (by omega), show 8 - x - (8 - (x + m)) = m by omega]
 rw [show ((gsA a).take x).map (fun (g : Nat) => (g : Int)) ++ List.replicate m 0 ++ ((gsA a).drop (x + m)).map (fun (g : Nat) => (g : Int)) = (gsA a).map fun (g : Nat) => (g : Int) by
  conv => rhs; rw [hz]
  simp, packA_gs h hv]
theorem told_six {a : Ad} (h : a.wf) (hv : a.v6 = true) {T : List UInt8} (hT : Six a T) : toldF ⟨T.toArray⟩ = some a := by
 rcases hT with rfl | ⟨x, m, m1, hr, rfl⟩
 ·exact six_none h hv
 ·exact six_some h hv m1 hr
theorem told_four {n : Nat} (h : n < 4294967296) : toldF ⟨(text4 n).toArray⟩ = some ⟨false, 0, n⟩ := by
 have hd : ∀ x ∈ [dec3 (n / 2 ^ 24 % 256), dec3 (n / 2 ^ 16 % 256), dec3 (n / 2 ^ 8 % 256), dec3 (n % 256)], (58 : UInt8) ∉ x ∧ (46 : UInt8) ∉ x := fun x hx => by
  simp only [List.mem_cons, List.not_mem_nil, or_false] at hx
  rcases hx with rfl | rfl | rfl | rfl <;> exact ⟨fun hc => ((dec3_chars _ (by omega)).2.2 _ hc).1 rfl, fun hc => ((dec3_chars _ (by omega)).2.2 _ hc).2.1 rfl⟩
 have hno : (58 : UInt8) ∉ text4 n := fun hc => by
  rcases join_mem 46 58 _ hc with ⟨x, hx, hc⟩ | ⟨e, _⟩
  ·exact (hd x hx).1 hc
  ·exact absurd e (by decide)
 unfold toldF
 rw [colonIn_no hno, if_neg (by simp)]
 unfold fourF
 have hs : splitOn ⟨(text4 n).toArray⟩ 46 = [⟨(dec3 (n / 2 ^ 24 % 256)).toArray⟩, ⟨(dec3 (n / 2 ^ 16 % 256)).toArray⟩, ⟨(dec3 (n / 2 ^ 8 % 256)).toArray⟩, ⟨(dec3 (n % 256)).toArray⟩] := by
  unfold text4
  rw [split_join 46 (by simp) fun x hx => (hd x hx).2]
  rfl
 rw [hs]
 simp only [List.length_cons, List.length_nil, Nat.zero_add, Nat.reduceAdd, if_true]
 have step : ∀ (k b : Nat) (r : List ByteArray), b < 256 → k < 4294967296 → fourL (⟨(dec3 b).toArray⟩ :: r) (k : Int) = fourL r ((k * 256 + b : Nat) : Int) := fun k b r hb hk => by
  rw [fourL, part_dec b hb]
  simp only
  have hs : aop .shl .u64 (k : Int) 8 = ((2 ^ 8 * k : Nat) : Int) := shl_nat k 8 (by omega) (by omega)
  rw [hs, or_low k b 8 (by omega) (by omega), show 2 ^ 8 * k + b = k * 256 + b by omega]
 rw [show (0 : Int) = ((0 : Nat) : Int) from rfl, step 0 _ _ (by omega) (by omega), step _ _ _ (by omega) (by omega), step _ _ _ (by omega) (by omega), step _ _ _ (by omega) (by omega), fourL]
 simp only [Option.map_some]
 congr 2
 omega
end Go.Ma
namespace Go.Ma
open Go
theorem join_len1 (c : UInt8) (k : Nat) : ∀ xs : List (List UInt8), xs ≠ [] → (∀ x ∈ xs, x.length ≤ k) → (Lib.join xs [c]).length + 1 ≤ (k + 1) * xs.length
 | [], h, _ => absurd rfl h
 | [x], _, h => by
  rw [Lib.join_one]
  have := h x (by simp)
  simp
  omega
 | x :: y :: r, _, h => by
  have h1 := h x (by simp)
  have h2 := join_len1 c k (y :: r) (by simp) (fun z hz => h z (by simp [hz]))
  rw [join_cons2]
  simp only [List.length_append, List.length_cons] at h2 ⊢
  rw [Nat.mul_add (k + 1) (r.length + 1) 1]
  omega
theorem six_short {a : Ad} {T : List UInt8} (h : Six a T) : T.length ≤ 39 := by
 have hl : ∀ gs : List Nat, (∀ g ∈ gs, g < 65536) → ∀ x ∈ gs.map hex4, x.length ≤ 4 := fun gs hg x hx => by
  obtain ⟨g, hg', rfl⟩ := List.mem_map.1 hx
  exact (hex4_read g (hg g hg')).2.2.1
 rcases h with rfl | ⟨x, m, m1, hr, rfl⟩
 ·have := join_len1 58 4 ((gsA a).map hex4) (by simp [gsA]) (hl _ (gsA_lt a))
  rw [List.length_map, show (gsA a).length = 8 by simp [gsA]] at this
  unfold joinG
  omega
 ·have h1 := joinG_len (gs := (gsA a).take x) fun g hg => gsA_lt a g (List.mem_of_mem_take hg)
  have h2 := joinG_len (gs := (gsA a).drop (x + m)) fun g hg => gsA_lt a g (List.mem_of_mem_drop hg)
  have := hr.1
  simp only [List.length_append, List.length_cons, List.length_nil]
  rw [List.length_take, show (gsA a).length = 8 by simp [gsA]] at h1
  rw [List.length_drop, show (gsA a).length = 8 by simp [gsA]] at h2
  omega
theorem four_short (n : Nat) : (text4 n).length ≤ 15 := by
 have := join_len1 46 3 [dec3 (n / 2 ^ 24 % 256), dec3 (n / 2 ^ 16 % 256), dec3 (n / 2 ^ 8 % 256), dec3 (n % 256)] (by simp) fun x hx => by
  simp only [List.mem_cons, List.not_mem_nil, or_false] at hx
  rcases hx with rfl | rfl | rfl | rfl <;> exact (dec3_chars _ (by omega)).2.1
 unfold text4
 simp at this ⊢
 omega
theorem text_back {a : Ad} (h : a.wf) (hc : chkA a = 0) : ∃ T : List UInt8, addr_Text_t a = some (⟨T.toArray⟩, ()) ∧ toldF ⟨T.toArray⟩ = some a ∧ T.length ≤ 39 := by
 cases hv : a.v6
 ·obtain ⟨h1, h2, h3, h4⟩ := id h
  have hcc : a.hi = 0 ∧ a.lo < 4294967296 := by
   unfold chkA at hc
   split at hc
   ·cases hc
   ·rename_i hn
    rw [hv] at hn
    simp only [true_and, not_or, ne_eq, Decidable.not_not, Int.not_le] at hn
    exact hn
  refine ⟨text4 a.lo.toNat, text_v4 h hv, ?_, Nat.le_trans (four_short _) (by omega)⟩
  rw [told_four (by omega)]
  obtain ⟨v, hi, lo⟩ := a
  simp only at hcc hv h3 ⊢
  rw [hv, hcc.1]
  congr 2
  omega
 ·obtain ⟨T, t1, t2⟩ := text6 h hv
  exact ⟨T, t1, told_six h hv t2, six_short t2⟩
end Go.Ma
namespace Go.Ma
open Go
def parseA (s : ByteArray) : Ad × Int × Unit := match toldF s with | some a => (a, 0, ()) | none => (⟨false, 0, 0⟩, 1, ())
theorem addr_Parse_eq {s : ByteArray} (hs : s.size ≤ 4294967200) : addr_Parse_t s = some (parseA s) := by
 unfold addr_Parse_t addr_told_t parseA toldA
 rw [req_of (Nat.ble_eq_true_of_le hs), bind_s]
 cases toldF s <;> rfl
end Go.Ma
namespace Go.Ma
open Go
end Go.Ma
namespace Go.Ma
open Go
theorem noS_join {gs : List Nat} (h : ∀ g ∈ gs, g < 65536) : (47 : UInt8) ∉ joinG gs := fun hc => by
 unfold joinG at hc
 rcases join_mem 58 47 _ hc with ⟨x, hx, h2⟩ | ⟨e, _⟩
 ·exact (hexs_ok h x hx).2.2.2 h2
 ·exact absurd e (by decide)
theorem noS_six {a : Ad} {T : List UInt8} (h : Six a T) : (47 : UInt8) ∉ T := by
 rcases h with rfl | ⟨x, m, _, _, rfl⟩
 ·exact noS_join (gsA_lt a)
 ·intro hc
  rcases List.mem_append.1 hc with hc | hc
  ·rcases List.mem_append.1 hc with hc | hc
   ·exact noS_join (fun g hg => gsA_lt a g (List.mem_of_mem_take hg)) hc
   ·simp only [List.mem_cons, List.not_mem_nil, or_false] at hc
    rcases hc with hc | hc <;> exact absurd hc (by decide)
  ·exact noS_join (fun g hg => gsA_lt a g (List.mem_of_mem_drop hg)) hc
theorem noS_four (n : Nat) : (47 : UInt8) ∉ text4 n := fun hc => by
 unfold text4 at hc
 rcases join_mem 46 47 _ hc with ⟨x, hx, h2⟩ | ⟨e, _⟩
 ·simp only [List.mem_cons, List.not_mem_nil, or_false] at hx
  rcases hx with rfl | rfl | rfl | rfl <;> exact ((dec3_chars _ (by omega)).2.2 _ h2).2.2 rfl
 ·exact absurd e (by decide)
theorem text_back47 {a : Ad} (h : a.wf) (hc : chkA a = 0) : ∃ T : List UInt8, addr_Text_t a = some (⟨T.toArray⟩, ()) ∧ addr_Parse_t ⟨T.toArray⟩ = some (a, 0, ()) ∧ T.length ≤ 39 ∧ (47 : UInt8) ∉ T := by
 obtain ⟨T, t1, t2, t3⟩ := text_back h hc
 refine ⟨T, t1, ?_, t3, ?_⟩
 ·rw [addr_Parse_eq (by simp [ByteArray.size]; omega)]
  unfold parseA
  rw [t2]
 ·cases hv : a.v6
  ·have e := text_v4 h hv
   rw [t1] at e
   simp only [Option.some.injEq, Prod.mk.injEq, and_true] at e
   have e2 : T = text4 a.lo.toNat := by
    have := congrArg (fun s : ByteArray => s.data.toList) e
    simpa using this
   rw [e2]
   exact noS_four _
  ·obtain ⟨T', e, h6⟩ := text6 h hv
   rw [t1] at e
   simp only [Option.some.injEq, Prod.mk.injEq, and_true] at e
   have e2 : T = T' := by
    have := congrArg (fun s : ByteArray => s.data.toList) e
    simpa using this
   rw [e2]
   exact noS_six h6
theorem dig_facts (n : Nat) (h : n < 129) : Lib.atoi (dec3 n) = some (n : Int) ∧ (dec3 n).length ≤ 3 := by
 have : ∀ d : Fin 129, Lib.atoi (dec3 d) = some ((d.val : Nat) : Int) ∧ (dec3 d).length ≤ 3 := by decide +kernel
 exact this ⟨n, h⟩
theorem itoa_dec {n : Nat} (h : n < 129) : strconv_Itoa_t (n : Int) = some (⟨(dec3 n).toArray⟩, ()) := by
 unfold strconv_Itoa_t
 rw [req_of (by rw [Bool.and_eq_true, decide_eq_true_iff, decide_eq_true_iff]; omega), Int.toNat_natCast, dec3_eq n (by omega)]
theorem digits_dec {n : Nat} (h : n < 129) : prefix_Digits_t ⟨(dec3 n).toArray⟩ = some ((n : Int), true, ()) := by
 obtain ⟨h1, h2⟩ := dig_facts n h
 have hs : (⟨(dec3 n).toArray⟩ : ByteArray).size = (dec3 n).length := by simp [ByteArray.size]
 unfold prefix_Digits_t
 rw [req_of (by rw [Nat.ble_eq, hs]; omega)]
 have e : (⟨(dec3 n).toArray⟩ : ByteArray).data.toList = dec3 n := by simp
 rw [e, h1]
 simp only
 rw [req_of (by rw [Bool.and_eq_true, decide_eq_true_iff, decide_eq_true_iff]; omega), Int.toNat_natCast, dec3_eq n (by omega), hs, decide_eq_true (show (dec3 n).length ≤ 4 by omega), Go.beq_toListBytes]
 simp
theorem cut_slash {T D : List UInt8} (hT : (47 : UInt8) ∉ T) (hl : T.length + D.length < 1000000) : strings_Cut_t ⟨(T ++ 47 :: D).toArray⟩ (⟨#[47]⟩ : ByteArray) = some (⟨T.toArray⟩, ⟨D.toArray⟩, true, ()) := by
 have hi : zq6 ⟨(T ++ 47 :: D).toArray⟩ (⟨#[47]⟩ : ByteArray) = some ((T.length : Int), ()) := by
  unfold zq6
  show some (Lib.indexByte (⟨(T ++ 47 :: D).toArray⟩ : ByteArray).data.toList 47, ()) = _
  rw [show (⟨(T ++ 47 :: D).toArray⟩ : ByteArray).data.toList = T ++ 47 :: D by simp, byte_first T D 47 hT]
 have hS : lenS (⟨(T ++ 47 :: D).toArray⟩ : ByteArray) = (T.length : Int) + 1 + (D.length : Int) := by
  unfold lenS
  simp [ByteArray.size]
  omega
 have h1 : lenS (⟨#[47]⟩ : ByteArray) = 1 := rfl
 have c1 : (true && decide ((T.length : Int) ≤ (T.length : Int) + 1 + (D.length : Int))) = true := by simp; omega
 have c2 : ((decide (0 ≤ (T.length : Int) + 1) && decide ((T.length : Int) + 1 ≤ (T.length : Int) + 1 + (D.length : Int))) && decide ((T.length : Int) + 1 + (D.length : Int) ≤ (T.length : Int) + 1 + (D.length : Int))) = true := by simp; omega
 unfold strings_Cut_t internal_stringslite_Cut_t
 rw [hi, bind_s, hS, h1]
 simp only
 rw [decide_eq_true (show (T.length : Int) ≥ 0 by omega), br_true, req_of c1, req_of (i64ok_of (by omega) (by omega)), req_of c2, bind_s]
 have e1 : subS (⟨(T ++ 47 :: D).toArray⟩ : ByteArray) 0 (T.length : Int) = ⟨T.toArray⟩ := by
  apply ByteArray.ext
  simp [subS, ByteArray.data_extract]
 have e2 : subS (⟨(T ++ 47 :: D).toArray⟩ : ByteArray) ((T.length : Int) + 1) ((T.length : Int) + 1 + (D.length : Int)) = ⟨D.toArray⟩ := by
  apply ByteArray.ext
  have q1 : ((T.length : Int) + 1).toNat = T.length + 1 := by omega
  have q2 : ((T.length : Int) + 1 + (D.length : Int)).toNat = T.length + 1 + D.length := by omega
  simp only [subS, ByteArray.data_extract, q1, q2]
  apply Array.ext'
  simp
 rw [e1, e2]
theorem print_parse {p : Pf} (hp : rtP p) : ∃ s, prefix_Print_t p = some (s, 0, ()) ∧ prefix_Parse_t s = some (p, 0, ()) := by
 obtain ⟨T, t1, t2, t3, t4⟩ := text_back47 hp.1.1.wf (chkP_ad hp.2)
 obtain ⟨b0, b1⟩ := chkP_bits hp.2
 have hw := wid_top p.ad.v6
 obtain ⟨n, hn⟩ : ∃ n : Nat, p.bits = (n : Int) := ⟨p.bits.toNat, by omega⟩
 have hn2 : n < 129 := by omega
 obtain ⟨_, d2⟩ := dig_facts n hn2
 refine ⟨⟨(T ++ 47 :: dec3 n).toArray⟩, ?_, ?_⟩
 ·unfold prefix_Print_t prefix_Text_t
  rw [zq18 hp.1, bind_s, decide_eq_true (show (chkP p, ()).1 = 0 from hp.2), Bool.not_true, br_false, t1, bind_s, hn]
  have ec : catS ⟨T.toArray⟩ (⟨#[47]⟩ : ByteArray) = ⟨(T ++ [47]).toArray⟩ := cat_lists T [47]
  simp only [ec]
  rw [req_of (room_list _ (by simp; omega)), itoa_dec hn2, bind_s]
  simp only [cat_lists]
  rw [req_of (room_list _ (by simp; omega)), bind_s, List.append_assoc]
  rfl
 ·unfold prefix_Parse_t
  rw [cut_slash t4 (by omega), bind_s]
  simp only
  rw [t2, bind_s, digits_dec hn2, bind_s]
  have e : (⟨p.ad, (n : Int)⟩ : Pf) = p := by rw [← hn]
  simp only [decide_true, Bool.not_true, br_false, bind_s, e, zq18 hp.1, hp.2]
def halvesT (p : Pf) : Pf × Pf × Int × Unit := if chkP p ≠ 0 then (pfZ, pfZ, chkP p, ()) else if p.bits = (wid p.ad.v6 : Nat) then (pfZ, pfZ, 5, ()) else (ofB (loB (toB p)), ofB (hiB (toB p)), 0, ())
theorem wide_f {p : Pf} (hp : rtP p) (h : ¬ p.bits = (wid p.ad.v6 : Nat)) : 0 < (toB p).f := by
 obtain ⟨b0, b1⟩ := chkP_bits hp.2
 show 0 < wid p.ad.v6 - p.bits.toNat
 omega
theorem prefix_Halves_eq {p : Pf} (hp : p.In) : prefix_Halves_t p = some (halvesT p) := by
 unfold prefix_Halves_t halvesT
 rw [zq18 hp, bind_s, prefix_Wide_eq, bind_s]
 by_cases hc : chkP p = 0
 ·have rp : rtP p := ⟨hp, hc⟩
  by_cases hb : p.bits = (wid p.ad.v6 : Nat)
  ·simp only [hc, hb, decide_true, br_true, bind_s, ne_eq, not_true, if_false, if_true]
   rfl
  ·have hs : prefix_Split_t p = some (ofB (loB (toB p)), ofB (hiB (toB p)), ()) := by
    have := split_eq (toB_fit rp) (wide_f rp hb)
    rw [ofB_toB rp] at this
    rw [prefix_Split_eq, this]
   simp only [hc, hb, decide_true, decide_false, br_true, br_false, bind_s, ne_eq, not_true, if_false, Bool.not_true, hs, dup_eq]
 ·simp only [hc, decide_false, br_false, bind_s, Bool.not_false, br_true, ne_eq, not_false_iff, if_true]
  rfl
theorem chkP_no5 (p : Pf) : ¬ chkP p = 5 := by
 unfold chkP
 split
 ·unfold chkA
  split <;> decide
 ·split
  ·decide
  ·split <;> decide
theorem whole_yes {p q : Pf} (hp : rtP p) (hq : rtP q) (hs : sib (toB p) (toB q)) : zq22 p q = some (ofB (upB (toB p)), 0, ()) := by
 obtain ⟨w, e1, e2⟩ := join_eq hp hq
 obtain ⟨rfl, _⟩ := e2 hs
 unfold zq22
 rw [prefix_two_eq hp.1 hq.1, bind_s]
 simp only [hp.2, hq.2, ne_eq, not_true, if_false, decide_true, Bool.not_true, br_false, prefix_Joined_eq, e1, bind_s, decide_eq_true hs]
theorem next_of {v : Bool} {n : Nat} (h : n + 1 < 2 ^ wid v) : addr_Next_t (ofNum v n) = some (ofNum v (n + 1), true, 0, ()) := by
 have h0 : n < 2 ^ wid v := by omega
 unfold addr_Next_t
 rw [addr_Check_eq, bind_s, decide_eq_true (show (chkA (ofNum v n), ()).1 = 0 from ofNum_chkC h0), Bool.not_true, br_false, addr_After_eq h, bind_s]
 rfl
theorem PrefixHalves_eq {p : Pf} (hp : p.In) : law_PrefixHalves_t p = some (true, ()) := by
 unfold law_PrefixHalves_t
 rw [prefix_Halves_eq hp, bind_s, prefixBegun_eq, bind_s]
 simp only [Bool.not_true, br_false, addrBegun_eq, bind_s]
 by_cases hc : chkP p = 0
 rotate_left
 ·have e1 : halvesT p = (pfZ, pfZ, chkP p, ()) := by unfold halvesT; rw [if_pos hc]
  have e2 : prefix_Print_t p = some (ByteArray.empty, chkP p, ()) := by
   unfold prefix_Print_t
   rw [zq18 hp, bind_s, decide_eq_false (show ¬ (chkP p, ()).1 = 0 from hc), Bool.not_false, br_true]
  have h5 := chkP_no5 p
  rw [e1, e2, bind_s]
  simp only [hc, h5, decide_false, br_false, Bool.not_false, br_true, bind_s]
 have rp : rtP p := ⟨hp, hc⟩
 obtain ⟨s, p1, p2⟩ := print_parse rp
 have hpp : eqPf p p = true := by rw [eqPf_eq]; exact decide_eq_true rfl
 rw [p1, bind_s]
 simp only [decide_true, br_true]
 rw [p2, bind_s]
 simp only [decide_true, Bool.not_true, br_false, hpp, bind_s]
 by_cases hb : p.bits = (wid p.ad.v6 : Nat)
 ·have e1 : halvesT p = (pfZ, pfZ, 5, ()) := by unfold halvesT; rw [if_neg (fun h => h hc), if_pos hb]
  rw [e1]
  show (br (!decide ((5 : Int) = 5)) _ _).bind _ = _
  simp only [decide_true, Bool.not_true, br_false, hb]
  cases p.ad.v6 <;> rfl
 have e1 : halvesT p = (ofB (loB (toB p)), ofB (hiB (toB p)), 0, ()) := by unfold halvesT; rw [if_neg (fun h => h hc), if_neg hb]
 rw [e1]
 have hf := toB_fit rp
 have hF := wide_f rp hb
 have fl := loB_fit hf hF
 have fh := hiB_fit hf hF
 obtain ⟨l1, l2⟩ := ofB_ok fl
 obtain ⟨h1, h2⟩ := ofB_ok fh
 have hsib : sib (toB (ofB (loB (toB p)))) (toB (ofB (hiB (toB p)))) := by
  rw [l2, h2]
  refine ⟨rfl, rfl, ?_, rfl⟩
  show 2 * (toB p).k % 2 = 0
  omega
 have hup : ofB (upB (toB (ofB (loB (toB p))))) = p := by
  rw [l2]
  have : upB (loB (toB p)) = toB p := by
   unfold upB loB
   simp only
   rw [show 2 * (toB p).k / 2 = (toB p).k by omega, show (toB p).f - 1 + 1 = (toB p).f by omega]
  rw [this, ofB_toB rp]
 have hw := whole_yes l1 h1 hsib
 rw [hup] at hw
 have el := prefix_Ends_eq l1.1
 have eh := prefix_Ends_eq h1.1
 have ep := prefix_Ends_eq hp
 rw [ends_right l1.2] at el
 rw [ends_right h1.2] at eh
 rw [ends_right hc] at ep
 obtain ⟨hp1, hp2, hp3⟩ := half_parts hF
 have nl := toB_lo l1
 have nh := toB_lo h1
 have np := toB_lo rp
 have ml := toB_hi l1
 have mh := toB_hi h1
 have mp := toB_hi rp
 rw [l2] at nl ml
 rw [h2] at nh mh
 obtain ⟨ll1, ll2⟩ := last_num l1.1 l1.2
 obtain ⟨lh1, lh2⟩ := last_num h1.1 h1.2
 obtain ⟨lp1, lp2⟩ := last_num hp hc
 have pl := Nat.two_pow_pos (free (ofB (loB (toB p))))
 have ph := Nat.two_pow_pos (free (ofB (hiB (toB p))))
 have pp := Nat.two_pow_pos (free p)
 have vl : (ofB (loB (toB p))).ad.v6 = p.ad.v6 := rfl
 have vh : (ofB (hiB (toB p))).ad.v6 = p.ad.v6 := rfl
 have hnum := fh.2
 have wv : wid (hiB (toB p)).v = wid p.ad.v6 := rfl
 rw [wv] at hnum
 have hnext : addr_Next_t (lastA (ofB (loB (toB p)))) = some ((ofB (hiB (toB p))).ad, true, 0, ()) := by
  obtain ⟨i1, i2⟩ := last_in l1.1 l1.2
  have e : lastA (ofB (loB (toB p))) = ofNum p.ad.v6 (lastA (ofB (loB (toB p)))).num := by
   rw [← vl, ← ll2]
   exact (ofNum_num _ i1.wf).symm
  have e2 : (ofB (hiB (toB p))).ad = ofNum p.ad.v6 ((lastA (ofB (loB (toB p)))).num + 1) := by
   have hn2 : (ofB (hiB (toB p))).ad.num = (lastA (ofB (loB (toB p)))).num + 1 := by omega
   have := (ofNum_num _ h1.1.1.wf).symm
   rw [vh, hn2] at this
   exact this
  rw [e2, e, num_ofNum]
  exact next_of (by
   have := (hiB (toB p)).lo_lt_hi
   omega)
 have q1 : (ofB (loB (toB p))).ad = p.ad := num_inj l1.1.1.wf hp.1.wf vl (by omega)
 have q2 : lastA (ofB (hiB (toB p))) = lastA p := num_inj (last_in h1.1 h1.2).1.wf (last_in hp hc).1.wf (by rw [lh2, lp2, vh]) (by omega)
 have ea : ∀ a : Ad, eqAd a a = true := fun a => by rw [eqAd_eq]; exact decide_eq_true rfl
 simp only [decide_true, Bool.not_true, br_false, hw, el, eh, ep, bind_s, hnext, hpp, br_true, ea, q1, q2]
end Go.Ma
namespace Go.Proofs.YtfkfpgoicmfpkaaGreatDoor.prefixHalves
open Go Go.Ma Go.ChangeShapes Go.WideShapes Go.ChangeAt Go.RowKit
set_option linter.unusedVariables false
theorem own : ownKnob Tryz.prog.godebug = none := by kernel_rfl
theorem laidOut : laidOutB Tryz.prog = true := by kernel_rfl
theorem plainly : ∀ x, PsIn [.one (.fl .pfx)] x → (fun x => law_PrefixHalves_t x.1) x = some ((true : Bool), ()) := fun x hx => PrefixHalves_eq hx.1
set_option maxRecDepth 100000 in
/-- What the walk gives. -/
theorem contract (H : Type) (enc : TypeId × Value → H) (W : World) (base : Nat) (args : Array Value) (ds gs : List (DataW H)) (before : List MemPlace)
  (hval : ∀ (j : Nat) t v, Tryz.f8.params[j]? = some t → args[j]? = some v → Value.okWide Tryz.prog W .any base t v)
  (hW : DataW.Whole enc Tryz.prog Tryz.f8.params.toList Rows.prefixHalvesSpec.vars false W args.toList ds gs before) (hG : Glob Tryz.prog W) :
  Calls Tryz.prog 8 args W fun e W' => ∃ v, e = .returned v ∧ Rows.prefixHalvesSpec.post enc Tryz.prog Tryz.f8 false true false false W args v W' := by
 have hW' := hW
 obtain ⟨p, q, hA0, hV, rfl, hfz, hnd⟩ := hW
 have hA : DataW.TrodAll enc Tryz.prog W 0 (fun _ => true) true Tryz.f8.params.toList args.toList ds p := hA0
 rw [Tryz.params8] at hA hval
 have hA2 := hA
 obtain ⟨v0, vs0, d0, ds0, p0, q0, hargs, rfl, rfl, h0, r0⟩ := trodAll_cons hA
 obtain ⟨rfl, rfl, rfl⟩ := trodAll_nil r0
 obtain rfl : args = #[v0] := by cases args; simp_all
 obtain ⟨rfl, rfl⟩ := trodVars_none hV
 have call := law_calls (enc := enc) hG law_PrefixHalves_ok plainly (fun x => rfl) (fun x => rfl) (ts := [27]) (vs := [v0]) (by kernel_rfl) (fun j t v h1 h2 => hval j t v (by simpa using h1) (by simpa using h2)) hA2
 refine call.mono fun e W' ⟨he, bel⟩ => ?_
 subst he
 exact ⟨_, rfl, _, _, _, [], _, [], hW', trodAll_mk1 (shut_bool Tryz.underlying4 _), all_back laidOut bel _ _ _ _ (by kernel_rfl) hA2, rfl, bel.frame _, fun h => by cases h⟩
mutual
def flat : DataW Unit → List Value
 | .lit (.int k x) => [.int k x]
 | .agg l => flats l
 | _ => []
def flats : List (DataW Unit) → List Value
 | [] => []
 | d :: r => flat d ++ flats r
end
noncomputable def low : Nat := (World.holding Tryz.prog default ⟨#[], #[], []⟩).heap.size
noncomputable def laidWorld (os : Os) : World :=
 let w0 := World.holding Tryz.prog os ⟨#[.cells #[.string ⟨#[118, 97, 108, 117, 101, 32, 111, 117, 116, 32, 111, 102, 32, 114, 97, 110, 103, 101]⟩] 187, .cells #[.string ⟨#[105, 110, 118, 97, 108, 105, 100, 32, 115, 121, 110, 116, 97, 120]⟩] 187], #[], []⟩
 {w0 with heap := (((((((w0.heap.modify 4 fun | .cells _ t frozen => .cells (flat Rows.laid_math_bits_deBruijn32tab).toArray t frozen | o => o).modify 5 fun | .cells _ t frozen => .cells (flat Rows.laid_math_bits_deBruijn64tab).toArray t frozen | o => o).modify 3 fun | .cells _ t frozen => .cells (flat Rows.laid_internal_strconv_uint64pow10).toArray t frozen | o => o).modify 7 fun | .cells _ t frozen => .cells (flat Rows.laid_unicode_utf8_acceptRanges).toArray t frozen | o => o).modify 2 fun | .cells _ t frozen => .cells #[.iface 185 (.pointer (some ⟨low + 0, 0, none⟩))] t frozen | o => o).modify 1 fun | .cells _ t frozen => .cells #[.iface 185 (.pointer (some ⟨low + 1, 0, none⟩))] t frozen | o => o).modify 6 fun | .cells _ t frozen => .cells (flat Rows.laid_unicode_utf8_first).toArray t frozen | o => o) }
theorem laid_met (os : Os) (args : Array Value) : laidMet Tryz.prog Rows.prefixHalvesRow.laid ((laidWorld os).forCall (fun _ _ => 0) ⟨#[], args, []⟩).memory :=
 laidMet_of_run' 8 (by kernel_rfl) (by kernel_rfl)
theorem reads (os : Os) {H : Type} (enc : TypeId × Value → H) : ∃ places, DataW.whole enc Tryz.prog ((laidWorld os).forCall (fun _ _ => 0) ⟨#[], #[.agg #[.bool false, .int .u64 0, .int .u64 0, .int .i64 0]], []⟩).memory Tryz.f8.params.toList Rows.prefixHalvesSpec.vars false (#[.agg #[.bool false, .int .u64 0, .int .u64 0, .int .i64 0]] : Array Value).toList 8 = some ([.agg [.agg [.lit (.bool false), .lit (.int .u64 0), .lit (.int .u64 0)], .lit (.int .i64 0)]], [], places) :=
 ⟨[], by kernel_rfl⟩
set_option maxRecDepth 100000 in
theorem lifted (os : Os) (started : os.Started) (H : Type) (enc : TypeId × Value → H) (F : Stop.Interp) :
  ReturnsInHanded {} Tryz.checked os 8 .any ((OpenSpec.ofChange Rows.prefixHalvesSpec).preRow enc Tryz.prog Tryz.f8 Rows.prefixHalvesRow.domain false Rows.prefixHalvesRow.laid) (((OpenSpec.ofChange Rows.prefixHalvesSpec).at F).post enc Tryz.prog Tryz.f8 false true false false) := by
 obtain ⟨places, hx⟩ := reads os enc
 refine returnsInHanded_of_row (C := Tryz.checked) (s := OpenSpec.ofChange Rows.prefixHalvesSpec) own started (by kernel_rfl) Tryz.func8
  (witness_row_at (enc := enc) (C := Tryz.checked) false (laidWorld os) #[.agg #[.bool false, .int .u64 0, .int .u64 0, .int .i64 0]] rfl (by kernel_rfl) (by kernel_rfl) (by kernel_rfl)
   (OpenSpec.preRow_of_cond 8 hx (by kernel_rfl) (fun k hk => by cases hk) (by kernel_rfl) (laid_met os _))) ?_
 intro W base args ds gs before hval hW _ hcond _ hL hS _
 have hL2 : laidMet Tryz.prog Rows.prefixHalvesRow.laid W := by rw [← MakeChecks.laidMetH_plain _ _ _ (by kernel_rfl)]; exact hL
 exact contract H enc W base args ds gs before hval hW (Glob.of_B hS hL2 (by kernel_rfl))
theorem said : Rows.PrefixHalvesSaid :=
 OpenClaim.holds_of_cond 8 Tryz.f8 rfl rfl rfl rfl rfl rfl rfl ⟨rfl, rfl, rfl, rfl, rfl⟩ rfl rfl rfl rfl rfl (by kernel_rfl) Tryz.func8 (by kernel_rfl)
  (of_decide_eq_true (by kernel_rfl)) (by unfold Func.isWrapper; first | (rw [if_pos (by decide +kernel)]; kernel_rfl) | (rw [if_neg (by decide +kernel)]; exact ⟨rfl, rfl⟩))
  (fun os started H enc _ F => by rw [OpenClaim.pre_eq_preRow]; exact lifted os started H enc F)
theorem plain (f : FuncId) (fn : Func) (hf : Tryz.pinned.checked.prog.funcNamed "yardarm/yardarmlaw.PrefixHalves" = some f) (hfn : Tryz.pinned.checked.prog.funcs[f]? = some fn) :
  true = Tryz.pinned.checked.prog.looks [] ∧ ∀ (j : Nat) t, fn.params[j]? = some t → Tryz.pinned.checked.prog.wantsStandIn t = false := by
 obtain rfl : f = 8 := Option.some.inj ((show Tryz.prog.funcNamed "yardarm/yardarmlaw.PrefixHalves" = some 8 by kernel_rfl).symm.trans hf) |>.symm
 obtain rfl : fn = Tryz.f8 := (Option.some.inj (Tryz.func8.symm.trans hfn)).symm
 refine ⟨by kernel_rfl, fun j t ht => ?_⟩
 rw [Tryz.params8] at ht
 have hm := Array.mem_of_getElem? ht
 have hm2 : t = 27 := by simpa using hm
 rcases hm2 with rfl
 exact (show Tryz.prog.wantsStandIn 27 = false by kernel_rfl)
theorem card : Rows.PrefixHalvesCardSaid :=
 Claim7.holds_tied_plain_at .later [] _ _ _ _ said (fun _ h => by cases h) (by kernel_rfl) (fun _ h => by cases h) prefixHalves_row_tie rfl ⟨rfl, rfl⟩ (by kernel_rfl) rfl plain (by kernel_rfl)
end Go.Proofs.YtfkfpgoicmfpkaaGreatDoor.prefixHalves
namespace Go.Proofs.YtfkfpgoicmfpkaaGreatDoor
theorem prefixHalves_said : Rows.PrefixHalvesCardSaid := prefixHalves.card
end Go.Proofs.YtfkfpgoicmfpkaaGreatDoor
namespace Go.Proofs.YtfkfpgoicmfpkaaGreatDoor
open Go
theorem allSix_said : Rows.SpanSameCardSaid ∧ Rows.SpanApartCardSaid ∧ Rows.SpanAddsCardSaid ∧ Rows.PickClearCardSaid ∧ Rows.PickAllCardSaid ∧ Rows.PrefixHalvesCardSaid := ⟨spanSame_said, spanApart_said, spanAdds_said, pickClear_said, pickAll_said, prefixHalves_said⟩
end Go.Proofs.YtfkfpgoicmfpkaaGreatDoor
