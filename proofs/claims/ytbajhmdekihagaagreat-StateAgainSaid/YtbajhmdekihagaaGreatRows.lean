/-
  No cell of these rows narrows 'for every input' (looked for: loops, veiled, ifaces, maps, wideKeys, modest, calm, conditions, laid).
  DERIVED. THE GIVEN ROWS OF THIS SEAT. 3 by the template 'for every input the law returns true; each argument reads behind the call as it read before'; 0 by the template 'total and deterministic' (their statements: YtbajhmdekihagaaGreatTotals.lean).
  GIVEN WITH THE SEED: the statements are not yours to turn. If you find one false, say at which input.
  Laid BY PROGRAM, IN A SANDBOX (cutbox-rows.mjs): the forced cells as the released guide's own fill.sh prints them over the translation 1a08356cf3c95e63… (all of the seat's roots in one cut). By AI agents, Wed Nov 11 2026. No macro, syntax, notation, axiom, sorry.
-/
import Derived.Test.YtbajhmdekihagaaGreatChecked
import GoSem.Claim
import GoSem.ClaimJoined
import GoSem.ClaimMapViews
import Derived.JoinedTies
import Derived.KernelRfl
namespace Go.Proofs.YtbajhmdekihagaaGreat
/- THE CELL 'sum', in the pinned program and in every row, IS THE sha256 OF THE DUMP (.gsa) THAT YtbajhmdekihagaaGreatProg.lean LOADS. Nothing in Lean hashes anything: it is a label: what it is worth is what the hold of that sum in a sandbox is worth. -/
noncomputable def Tryz.pinned : Pinned := { name := "ytbajhmdekihagaagreat", sum := "1a08356cf3c95e6352f7cc6052843a7d83e3ddd3463d9482a8d6b0696c1dd34f", checked := Tryz.checked }
namespace Rows
def none {H : Type} : Left H := { results := [], args := [] }

/-- 'yardarmlaw.StateTells': WHATEVER THE INPUT: true; the input reads as it did. -/
def stateTellsSpec : ChangeSpec := { name := "stateTells", fn := fun _ => fun
  | [d1, d2] => { results := [.lit (.bool true)], args := [d1, d2] }
  | _ => none }
def stateTellsRow : OpenClaim := { program := "ytbajhmdekihagaagreat", sum := "1a08356cf3c95e6352f7cc6052843a7d83e3ddd3463d9482a8d6b0696c1dd34f", func := "yardarm/yardarmlaw.StateTells", spec := "stateTells", inPlace := ["slices.overlaps[yardarm/api.Pool]", "slices.overlaps[yardarm/api.Addr]", "slices.overlaps[yardarm/api.Lease]"], unfollowed := true, recurses := true, apart := false }
def StateTellsSaid : Prop := stateTellsRow.holds Tryz.pinned (OpenSpec.ofChange stateTellsSpec)

/-- ITS FALSE NEIGHBOUR: 'it returns false'. Refute it at one input. -/
def stateTellsWrong : ChangeSpec := { name := "stateTells", fn := fun _ => fun
  | [d1, d2] => { results := [.lit (.bool false)], args := [d1, d2] }
  | _ => none }
def StateTellsWrongFalsely : Prop := stateTellsRow.holds Tryz.pinned (OpenSpec.ofChange stateTellsWrong)

/-- 'yardarmlaw.StateSafe': WHATEVER THE INPUT: true; the input reads as it did. -/
def stateSafeSpec : ChangeSpec := { name := "stateSafe", fn := fun _ => fun
  | [d1, d2] => { results := [.lit (.bool true)], args := [d1, d2] }
  | _ => none }
def stateSafeRow : OpenClaim := { program := "ytbajhmdekihagaagreat", sum := "1a08356cf3c95e6352f7cc6052843a7d83e3ddd3463d9482a8d6b0696c1dd34f", func := "yardarm/yardarmlaw.StateSafe", spec := "stateSafe", inPlace := ["slices.overlaps[yardarm/api.Pool]", "slices.overlaps[yardarm/api.Addr]", "slices.overlaps[yardarm/api.Lease]"], unfollowed := true, recurses := true, apart := false }
def StateSafeSaid : Prop := stateSafeRow.holds Tryz.pinned (OpenSpec.ofChange stateSafeSpec)

/-- ITS FALSE NEIGHBOUR: 'it returns false'. Refute it at one input. -/
def stateSafeWrong : ChangeSpec := { name := "stateSafe", fn := fun _ => fun
  | [d1, d2] => { results := [.lit (.bool false)], args := [d1, d2] }
  | _ => none }
def StateSafeWrongFalsely : Prop := stateSafeRow.holds Tryz.pinned (OpenSpec.ofChange stateSafeWrong)

/-- 'yardarmlaw.StateAgain': WHATEVER THE INPUT: true; the input reads as it did. -/
def stateAgainSpec : ChangeSpec := { name := "stateAgain", fn := fun _ => fun
  | [d1, d2, d3, d4, d5, d6] => { results := [.lit (.bool true)], args := [d1, d2, d3, d4, d5, d6] }
  | _ => none }
def stateAgainRow : OpenClaim := { program := "ytbajhmdekihagaagreat", sum := "1a08356cf3c95e6352f7cc6052843a7d83e3ddd3463d9482a8d6b0696c1dd34f", func := "yardarm/yardarmlaw.StateAgain", spec := "stateAgain", inPlace := ["slices.overlaps[yardarm/api.Pool]", "slices.overlaps[yardarm/api.Addr]", "slices.overlaps[yardarm/api.Lease]"], unfollowed := true, recurses := true, apart := false }
def StateAgainSaid : Prop := stateAgainRow.holds Tryz.pinned (OpenSpec.ofChange stateAgainSpec)

/-- ITS FALSE NEIGHBOUR: 'it returns false'. Refute it at one input. -/
def stateAgainWrong : ChangeSpec := { name := "stateAgain", fn := fun _ => fun
  | [d1, d2, d3, d4, d5, d6] => { results := [.lit (.bool false)], args := [d1, d2, d3, d4, d5, d6] }
  | _ => none }
def StateAgainWrongFalsely : Prop := stateAgainRow.holds Tryz.pinned (OpenSpec.ofChange stateAgainWrong)

/- THE SECOND FORM. 'bulk': how many values and letters a reading holds, each counted each time it is reached (what is shared counts as often as it is met; a slice's spare places count too). A statement '..UptoSaid' is the law's where the arguments, and the package variables that the reading takes, are together of bulk at most 1048576: NARROWER than '..Said'. Prove '..Said' where nothing that the law and all that it calls make is longer than what came in: it says more and counts as full. Else prove '..UptoSaid'. A law counts once. -/
mutual
def uptoBulk {H : Type} : DataW H → Nat
  | .lit (.string bytes) => bytes.length + 1
  | .lit _ => 1
  | .nil => 1
  | .ptr d => uptoBulk d + 1
  | .slice elems spare => uptoBulkAll elems + uptoBulkAll spare + 1
  | .agg parts => uptoBulkAll parts + 1
  | .iface _ d => uptoBulk d + 1
  | .map entries => uptoBulkEntries entries + 1
  | .held _ => 1
def uptoBulkAll {H : Type} : List (DataW H) → Nat
  | [] => 0
  | d :: r => uptoBulk d + uptoBulkAll r
def uptoBulkEntries {H : Type} : List (Lit × DataW H) → Nat
  | [] => 0
  | x :: r => uptoBulkEntry x + uptoBulkEntries r
def uptoBulkEntry {H : Type} : Lit × DataW H → Nat
  | (.string bytes, d) => bytes.length + uptoBulk d + 1
  | (_, d) => uptoBulk d + 1
 end
def uptoSmall : (H : Type) → List (DataW H) → Bool := fun _ ds => decide (uptoBulkAll ds ≤ 1048576)
def OpenSpec.upto (s : _root_.Go.ChangeSpec) : _root_.Go.OpenSpec := { _root_.Go.OpenSpec.ofChange s with cond := some uptoSmall }

/-- 'yardarmlaw.StateTells', WHERE WHAT IT READS IS OF BULK AT MOST 1048576: true; the input reads as it did. -/
def stateTellsUptoRow : OpenClaim := { program := "ytbajhmdekihagaagreat", sum := "1a08356cf3c95e6352f7cc6052843a7d83e3ddd3463d9482a8d6b0696c1dd34f", func := "yardarm/yardarmlaw.StateTells", spec := "stateTells", inPlace := ["slices.overlaps[yardarm/api.Pool]", "slices.overlaps[yardarm/api.Addr]", "slices.overlaps[yardarm/api.Lease]"], unfollowed := true, recurses := true, apart := false, narrowed := true }
def StateTellsUptoSaid : Prop := stateTellsUptoRow.holds Tryz.pinned (OpenSpec.upto stateTellsSpec)

/-- 'yardarmlaw.StateSafe', WHERE WHAT IT READS IS OF BULK AT MOST 1048576: true; the input reads as it did. -/
def stateSafeUptoRow : OpenClaim := { program := "ytbajhmdekihagaagreat", sum := "1a08356cf3c95e6352f7cc6052843a7d83e3ddd3463d9482a8d6b0696c1dd34f", func := "yardarm/yardarmlaw.StateSafe", spec := "stateSafe", inPlace := ["slices.overlaps[yardarm/api.Pool]", "slices.overlaps[yardarm/api.Addr]", "slices.overlaps[yardarm/api.Lease]"], unfollowed := true, recurses := true, apart := false, narrowed := true }
def StateSafeUptoSaid : Prop := stateSafeUptoRow.holds Tryz.pinned (OpenSpec.upto stateSafeSpec)

/-- 'yardarmlaw.StateAgain', WHERE WHAT IT READS IS OF BULK AT MOST 1048576: true; the input reads as it did. -/
def stateAgainUptoRow : OpenClaim := { program := "ytbajhmdekihagaagreat", sum := "1a08356cf3c95e6352f7cc6052843a7d83e3ddd3463d9482a8d6b0696c1dd34f", func := "yardarm/yardarmlaw.StateAgain", spec := "stateAgain", inPlace := ["slices.overlaps[yardarm/api.Pool]", "slices.overlaps[yardarm/api.Addr]", "slices.overlaps[yardarm/api.Lease]"], unfollowed := true, recurses := true, apart := false, narrowed := true }
def StateAgainUptoSaid : Prop := stateAgainUptoRow.holds Tryz.pinned (OpenSpec.upto stateAgainSpec)

end Rows
end Go.Proofs.YtbajhmdekihagaaGreat
