/-
  For every input whose arguments are together of bulk at most 1048576, ShipTells of the package yardarmlaw returns true, and each of its arguments reads behind the call as it read before.
-/
import Derived.Test.YtgfcgbhocdlleaaRows
import Derived.Test.YtgfcgbhocdlleaaPs
import Derived.Test.YtgfcgbhocdlleaaWm
import Derived.Test.YtgfcgbhocdlleaaMaR
import Derived.Test.YtgfcgbhocdlleaaWk
import Derived.WalkKit
import Derived.ProofKit
import Derived.OpenShut
import Derived.ShutString
import Derived.ChangeOld
import Derived.Below
import Derived.JoinedCond
namespace Go.Proofs.Ytgfcgbhocdlleaa
open Go Go.Ma Go.ChangeShapes Go.WideShapes Go.ChangeAt Go.RowKit
set_option linter.unusedVariables false
theorem shipTells_own : ownKnob Try.prog.godebug = none := by kernel_rfl
theorem shipTells_laidOut : laidOutB Try.prog = true := by kernel_rfl
theorem shipTells_one {H : Type} (d : DataW H) : 1 ≤ Rows.uptoBulk d := by
  cases d with
  | lit l => cases l <;> simp [Rows.uptoBulk]
  | _ => simp [Rows.uptoBulk]
theorem shipTells_len {H : Type} : ∀ l : List (DataW H), l.length ≤ Rows.uptoBulkAll l
  | [] => Nat.zero_le _
  | d :: r => by
    have h1 := shipTells_one d
    have h2 := shipTells_len r
    simp only [Rows.uptoBulkAll, List.length_cons]
    omega
theorem shipTells_part {H : Type} {d : DataW H} : ∀ {l : List (DataW H)}, d ∈ l → Rows.uptoBulk d ≤ Rows.uptoBulkAll l
  | e :: r, h => by
    simp only [Rows.uptoBulkAll]
    rcases List.mem_cons.1 h with rfl | h
    · omega
    · have := shipTells_part h
      omega
theorem shipTells_small {H : Type} : Small (H := H) 1048576 (fun d => Rows.uptoBulk d ≤ 1048576) := by
  refine ⟨fun es sp _ h => ?_, fun l q hq h => ?_⟩
  · have h1 := shipTells_len es
    simp only [Rows.uptoBulk] at h
    omega
  · have h1 := shipTells_part hq
    simp only [Rows.uptoBulk] at h
    omega
theorem shipTells_plain : ∀ x, PsIn [.one (.row .entry 57), .one (.row .entry 57), .one (.row .entry 57), .one (.fl .int)] x → PsLe 1048576 [.one (.row .entry 57), .one (.row .entry 57), .one (.row .entry 57), .one (.fl .int)] x → (fun x => law_ShipTells_t x.1 x.2.1 x.2.2.1 x.2.2.2.1) x = some ((true : Bool), ()) := fun x hx hl => ShipTells_eq hx.1.2 hx.2.1.2 hx.2.2.1.2 hl.1 hl.2.2.1 _
/-- What the walk gives. -/
theorem shipTells_contract (H : Type) (enc : TypeId × Value → H) (W : World) (base : Nat) (args : Array Value) (ds gs : List (DataW H)) (before : List MemPlace)
    (hval : ∀ (j : Nat) t v, Try.f3.params[j]? = some t → args[j]? = some v → Value.okWide Try.prog W .any base t v)
    (hW : DataW.Whole enc Try.prog Try.f3.params.toList Rows.shipTellsSpec.vars false W args.toList ds gs before) (hk : Rows.uptoSmall H (ds ++ gs) = true) :
    Calls Try.prog 3 args W fun e W' => ∃ v, e = .returned v ∧ Rows.shipTellsSpec.post enc Try.prog Try.f3 false true false false W args v W' := by
  have hW' := hW
  obtain ⟨p, q, hA0, hV, rfl, hfz, hnd⟩ := hW
  have hA : DataW.TrodAll enc Try.prog W 0 (fun _ => true) true Try.f3.params.toList args.toList ds p := hA0
  rw [Try.params3] at hA hval
  have hA2 := hA
  obtain ⟨v0, vs0, d0, ds0, p0, q0, hargs, rfl, rfl, h0, r0⟩ := trodAll_cons hA
  obtain ⟨v1, vs1, d1, ds1, p1, q1, rfl, rfl, rfl, h1, r1⟩ := trodAll_cons r0
  obtain ⟨v2, vs2, d2, ds2, p2, q2, rfl, rfl, rfl, h2, r2⟩ := trodAll_cons r1
  obtain ⟨v3, vs3, d3, ds3, p3, q3, rfl, rfl, rfl, h3, r3⟩ := trodAll_cons r2
  obtain ⟨rfl, rfl, rfl⟩ := trodAll_nil r3
  obtain rfl : args = #[v0, v1, v2, v3] := by cases args; simp_all
  obtain ⟨rfl, rfl⟩ := trodVars_none hV
  have hb : Rows.uptoBulkAll ([d0, d1, d2, d3] ++ []) ≤ 1048576 := of_decide_eq_true hk
  rw [List.append_nil] at hb
  have call := law_calls_le (enc := enc) shipTells_small law_ShipTells_ok shipTells_plain (fun x => rfl) (fun x => rfl) (ts := [22, 22, 22, 3]) (vs := [v0, v1, v2, v3]) (by kernel_rfl) (fun j t v h1 h2 => hval j t v (by simpa using h1) (by simpa using h2)) hA2 (fun d hd => Nat.le_trans (shipTells_part hd) hb)
  refine call.mono fun e W' ⟨he, bel⟩ => ?_
  subst he
  exact ⟨_, rfl, _, _, _, [], _, [], hW', trodAll_mk1 (shut_bool Try.underlying4 _), all_back shipTells_laidOut bel _ _ _ _ (by kernel_rfl) hA2, rfl, bel.frame _, fun h => by cases h⟩
set_option maxRecDepth 100000 in
theorem shipTells_lifted (os : Os) (started : os.Started) (H : Type) (enc : TypeId × Value → H) (F : Stop.Interp) :
    ReturnsInHanded {} Try.checked os 3 .any ((Rows.OpenSpec.upto Rows.shipTellsSpec).pre6 enc Try.prog Try.f3 Rows.shipTellsUptoRow.domain false) (((Rows.OpenSpec.upto Rows.shipTellsSpec).at F).post enc Try.prog Try.f3 false true false false) := by
  refine returnsInHanded_of_cond (C := Try.checked) (s := Rows.OpenSpec.upto Rows.shipTellsSpec) (k := Rows.uptoSmall) rfl shipTells_own started (by kernel_rfl) Try.func3
    (OpenSpec.witness (enc := enc) (C := Try.checked) (s := Rows.OpenSpec.upto Rows.shipTellsSpec) (k := Rows.uptoSmall) rfl false ⟨#[], #[.slice none 0 0, .slice none 0 0, .slice none 0 0, .int .i64 0], []⟩ 8 (by kernel_rfl) (by kernel_rfl) (by kernel_rfl)
      (x := ([.nil, .nil, .nil, .lit (.int .i64 0)], [], [])) (by kernel_rfl) rfl (by kernel_rfl)) ?_
  intro W base args ds gs before hval hW _ hk _
  exact shipTells_contract H enc W base args ds gs before hval hW hk
theorem shipTells_over : Rows.shipTellsUptoRow.holds Try.pinned (Rows.OpenSpec.upto Rows.shipTellsSpec) :=
  OpenClaim.holds_of_cond 3 Try.f3 rfl rfl rfl rfl rfl rfl rfl ⟨rfl, rfl, rfl, rfl, rfl⟩ rfl rfl rfl rfl rfl (by kernel_rfl) Try.func3 (by kernel_rfl)
    (of_decide_eq_true (by kernel_rfl)) (by unfold Func.isWrapper; rw [if_neg (of_decide_eq_false (by kernel_rfl))]; exact ⟨rfl, rfl⟩)
    (fun os started H enc _ F => shipTells_lifted os started H enc F)
/-- The statement. -/
theorem shipTells_said : Rows.ShipTellsUptoSaid := shipTells_over
#print axioms shipTells_said
end Go.Proofs.Ytgfcgbhocdlleaa
