/-
  What the machine asks of the package variables, out of what a row says of the world in which its call begins.
-/
import Derived.Test.YtihapikjcifbaaaDoorMaB
import Derived.Shelf.Vars
import Derived.Lib.LaidTab
import Derived.LaidLaws
import Derived.MakeChecks
namespace Go.Ma
open Go
theorem laidVars_reads {P : Program} {w : World} : ∀ {l : List (String × DataW Unit)} {ps : List MemPlace}, DataW.LaidVars P w l ps → ∀ n d, (n, d) ∈ l → ∃ g t cs fuel p, P.globalNamed n = some g ∧ (P.globals[g]?).map (·.type) = some t ∧ w.var? P n = some cs ∧ DataW.trod (fun _ => ()) P w 0 (fun _ => true) false fuel t cs.toList = some (d, p)
  | [], _, _, _, _, hm => by cases hm
  | (n', d') :: r, ps, h, n, d, hm => by
    obtain ⟨g, t, cs, fuel, p, q, h1, h2, h3, h4, h5, _⟩ := h
    rcases List.mem_cons.1 hm with e | e
    · cases e
      exact ⟨g, t, cs, fuel, p, h1, h2, h3, h4⟩
    · exact laidVars_reads h5 n d e
theorem heap_of_var {P : Program} {w : World} {n : String} {g : Nat} {cs : Array Value} (hg : P.globalNamed n = some g) (h : w.var? P n = some cs) : ∃ t z, w.heap[g]? = some (.cells cs t z) := by
  unfold World.var? at h
  rw [hg, Option.bind_some] at h
  split at h
  · rename_i c t z hh
    injection h with h
    exact ⟨t, z, by rw [hh, h]⟩
  · cases h
/-- A number's variable. -/
def numB (P : Program) (n : String) : Bool := match P.globalNamed n with
  | none => true
  | some g => match ((begin P (fun _ _ => 0) default).world.heap[g]?).bind Obj.row? with
    | some (zero, t) => decide (g < P.globals.size) && zero.size == 1 && P.buildable t && (match P.cellTypes P.depth t with | some [u] => u == t | _ => false) && (match P.underlying t with | some (.int k) => (match k with | .i64 => true | _ => false) | _ => false)
    | none => false
theorem num_of_B {P : Program} {w : World} (hS : w.ShapedOpen P) {n : String} (h : numB P n = true) {g : Nat} (hg : P.globalNamed n = some g) : ∃ m, w.cell? ⟨g, 0, none⟩ = some (.int .i64 m) := by
  unfold numB at h
  rw [hg] at h
  simp only at h
  split at h
  · rename_i zero t hz
    simp only [Bool.and_eq_true, decide_eq_true_eq, beq_iff_eq] at h
    obtain ⟨⟨⟨⟨h1, h2⟩, h3⟩, h4⟩, h5⟩ := h
    split at h4
    · rename_i u hu
      have h4 := eq_of_beq h4
      subst h4
      split at h5
      · rename_i k hk
        split at h5
        · exact Go.Proofs.cell_of_shapedOpen_int hS h1 hz h2 h3 hu hk
        · cases h5
      · cases h5
    · cases h4
  · cases h
/-- An error's variable. -/
def errB (P : Program) (laid : List (String × DataW Unit)) (n : String) : Bool := match P.globalNamed n with
  | none => true
  | some g => (laid.any fun x => x.1 == n && (match x.2 with | .iface _ (.ptr _) => true | _ => false)) && (match (P.globals[g]?).map (·.type) with | some t => (match P.underlying t with | some (.interface _) => true | _ => false) | none => false)
theorem err_of_B {P : Program} {w : World} {laid : List (String × DataW Unit)} (hL : laidMet P laid w) {n : String} (h : errB P laid n = true) {g : Nat} (hg : P.globalNamed n = some g) : ∃ ev, w.cell? ⟨g, 0, none⟩ = some ev ∧ (ev = .nilIface ∨ ∃ te pe, ev = .iface te pe) := by
  unfold errB at h
  rw [hg] at h
  simp only [Bool.and_eq_true, List.any_eq_true, beq_iff_eq] at h
  obtain ⟨⟨⟨n', d⟩, hm, rfl, hd⟩, ht⟩ := h
  obtain ⟨ps, hv, _⟩ := hL
  obtain ⟨g', t, cs, fuel, p, h1, h2, h3, h4⟩ := laidVars_reads hv _ _ hm
  obtain rfl := Option.some.inj (hg.symm.trans h1)
  rw [h2] at ht
  simp only at ht
  split at ht
  · rename_i ms hi
    simp only at hd
    split at hd
    · obtain ⟨f1, u, v, hcs, _⟩ := iface_of_trod hi h4
      obtain ⟨t', z, hh⟩ := heap_of_var h1 h3
      refine ⟨.iface u v, ?_, .inr ⟨_, _, rfl⟩⟩
      obtain ⟨l⟩ := cs
      simp only at hcs
      subst hcs
      simp [World.cell?, hh]
    · cases hd
  · cases ht
def tabGo (k : IntKind) : List (DataW Unit) → List Int → Bool
  | [], [] => true
  | .lit (.int k' z') :: l, z :: zs => decide (k' = k) && decide (z' = z) && tabGo k l zs
  | _, _ => false
theorem tabGo_eq (k : IntKind) : ∀ (l : List (DataW Unit)) (zs : List Int), tabGo k l zs = true → l = zs.map fun z => .lit (.int k z)
  | [], [], _ => rfl
  | [], _ :: _, h => by simp [tabGo] at h
  | d :: l, [], h => by cases d with
    | lit x => cases x <;> simp [tabGo] at h
    | _ => simp [tabGo] at h
  | d :: l, z :: zs, h => by
    cases d with
    | lit x => cases x with
      | int k' z' =>
        simp only [tabGo, Bool.and_eq_true, decide_eq_true_eq] at h
        obtain ⟨⟨rfl, rfl⟩, h⟩ := h
        rw [tabGo_eq _ l zs h]
        rfl
      | _ => simp [tabGo] at h
    | _ => simp [tabGo] at h
def tabB (P : Program) (laid : List (String × DataW Unit)) (n : String) (k : IntKind) (zs : List Int) : Bool := match P.globalNamed n with
  | none => true
  | some g => (laid.any fun x => x.1 == n && (match x.2 with | .agg l => tabGo k l zs | _ => false)) && (match (P.globals[g]?).map (·.type) with | some t => (match P.underlying t with | some (.array m e) => decide (P.cellsOf t = m) && decide (P.cellsOf e = 1) && (match P.underlying e with | some (.int k') => decide (k' = k) | _ => false) | _ => false) | none => false)
theorem tab_of_B {P : Program} {w : World} {laid : List (String × DataW Unit)} (hL : laidMet P laid w) {n : String} {k : IntKind} {zs : List Int} (h : tabB P laid n k zs = true) {g : Nat} (hg : P.globalNamed n = some g) : ∃ t z, w.heap[g]? = some (.cells (zs.map (Value.int k)).toArray t z) := by
  unfold tabB at h
  rw [hg] at h
  simp only [Bool.and_eq_true, List.any_eq_true, beq_iff_eq] at h
  obtain ⟨⟨⟨n', d⟩, hm, rfl, hd⟩, ht⟩ := h
  obtain ⟨ps, hv, _⟩ := hL
  obtain ⟨g', t, cs, fuel, p, h1, h2, h3, h4⟩ := laidVars_reads hv _ _ hm
  obtain rfl := Option.some.inj (hg.symm.trans h1)
  rw [h2] at ht
  simp only at ht
  split at ht
  · rename_i m e hu
    simp only [Bool.and_eq_true, decide_eq_true_eq] at ht
    obtain ⟨⟨hc, he⟩, hk⟩ := ht
    split at hk
    · rename_i k' hk'
      have hk := of_decide_eq_true hk
      subst hk
      simp only at hd
      split at hd
      · rename_i l
        have := tabGo_eq _ _ _ hd
        subst this
        have := Lib.cells_of_tab hu hk' he hc h4
        obtain ⟨t', z, hh⟩ := heap_of_var h1 h3
        exact ⟨t', z, by rw [hh]; congr 1; rw [← this]⟩
      · cases hd
    · cases hk
  · cases ht
def globB (P : Program) (laid : List (String × DataW Unit)) : Bool := numB P "internal/bytealg.MaxLen" && errB P laid "strconv.ErrSyntax" && errB P laid "strconv.ErrRange" && tabB P laid "internal/strconv.uint64pow10" .u64 pow10s && tabB P laid "math/bits.deBruijn64tab" .u8 places64
theorem Glob.of_B {P : Program} {w : World} {laid : List (String × DataW Unit)} (hS : w.ShapedOpen P) (hL : laidMet P laid w) (h : globB P laid = true) : Glob P w := by
  simp only [globB, Bool.and_eq_true] at h
  obtain ⟨⟨⟨⟨h1, h2⟩, h3⟩, h4⟩, h5⟩ := h
  refine ⟨fun g hg => num_of_B hS h1 hg, fun n g hn hg => ?_, fun g hg => tab_of_B hL h4 hg, fun g hg => tab_of_B hL h5 hg⟩
  rcases hn with rfl | rfl
  · exact err_of_B hL h2 hg
  · exact err_of_B hL h3 hg
end Go.Ma
