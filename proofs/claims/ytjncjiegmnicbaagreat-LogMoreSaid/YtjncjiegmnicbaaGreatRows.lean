/-
  No cell of these rows narrows 'for every input' (looked for: loops, veiled, ifaces, maps, wideKeys, modest, calm, conditions, laid).
  DERIVED. THE GIVEN ROWS OF THIS SEAT. 7 by the template 'for every input the law returns true; each argument reads behind the call as it read before'; 0 by the template 'total and deterministic' (their statements: YtjncjiegmnicbaaGreatTotals.lean).
  GIVEN WITH THE SEED: the statements are not yours to turn. If you find one false, say at which input.
  Laid BY PROGRAM, IN A SANDBOX (cutbox-rows.mjs): the forced cells as the released guide's own fill.sh prints them over the translation ab727d6d687a7cb9… (all of the seat's roots in one cut). By AI agents, Wed Nov 11 2026. No macro, syntax, notation, axiom, sorry.
-/
import Derived.Test.YtjncjiegmnicbaaGreatChecked
import GoSem.Claim
import GoSem.ClaimJoined
import GoSem.ClaimMapViews
import Derived.JoinedTies
import Derived.KernelRfl
namespace Go.Proofs.YtjncjiegmnicbaaGreat
/- THE CELL 'sum', in the pinned program and in every row, IS THE sha256 OF THE DUMP (.gsa) THAT YtjncjiegmnicbaaGreatProg.lean LOADS. Nothing in Lean hashes anything: it is a label: what it is worth is what the hold of that sum in a sandbox is worth. -/
noncomputable def Tryz.pinned : Pinned := { name := "ytjncjiegmnicbaagreat", sum := "ab727d6d687a7cb97486d73901e1bbefa51cdb75f07a738d6f4700423b4ad70c", checked := Tryz.checked }
namespace Rows
def none {H : Type} : Left H := { results := [], args := [] }

/-- 'yardarmlaw.LogTells': WHATEVER THE INPUT: true; the input reads as it did. -/
def logTellsSpec : ChangeSpec := { name := "logTells", fn := fun _ => fun
  | [d1, d2, d3, d4] => { results := [.lit (.bool true)], args := [d1, d2, d3, d4] }
  | _ => none }
def logTellsRow : OpenClaim := { program := "ytjncjiegmnicbaagreat", sum := "ab727d6d687a7cb97486d73901e1bbefa51cdb75f07a738d6f4700423b4ad70c", func := "yardarm/yardarmlaw.LogTells", spec := "logTells", inPlace := ["slices.overlaps[yardarm/api.Pool]", "slices.overlaps[yardarm/api.Addr]", "slices.overlaps[yardarm/api.Lease]"], unfollowed := true, recurses := true, apart := false }
def LogTellsSaid : Prop := logTellsRow.holds Tryz.pinned (OpenSpec.ofChange logTellsSpec)

/-- ITS FALSE NEIGHBOUR: 'it returns false'. Refute it at one input. -/
def logTellsWrong : ChangeSpec := { name := "logTells", fn := fun _ => fun
  | [d1, d2, d3, d4] => { results := [.lit (.bool false)], args := [d1, d2, d3, d4] }
  | _ => none }
def LogTellsWrongFalsely : Prop := logTellsRow.holds Tryz.pinned (OpenSpec.ofChange logTellsWrong)

/-- 'yardarmlaw.LogParts': WHATEVER THE INPUT: true; the input reads as it did. -/
def logPartsSpec : ChangeSpec := { name := "logParts", fn := fun _ => fun
  | [d1, d2, d3] => { results := [.lit (.bool true)], args := [d1, d2, d3] }
  | _ => none }
def logPartsRow : OpenClaim := { program := "ytjncjiegmnicbaagreat", sum := "ab727d6d687a7cb97486d73901e1bbefa51cdb75f07a738d6f4700423b4ad70c", func := "yardarm/yardarmlaw.LogParts", spec := "logParts", inPlace := ["slices.overlaps[yardarm/api.Pool]", "slices.overlaps[yardarm/api.Addr]", "slices.overlaps[yardarm/api.Lease]"], unfollowed := true, recurses := true, apart := false }
def LogPartsSaid : Prop := logPartsRow.holds Tryz.pinned (OpenSpec.ofChange logPartsSpec)

/-- ITS FALSE NEIGHBOUR: 'it returns false'. Refute it at one input. -/
def logPartsWrong : ChangeSpec := { name := "logParts", fn := fun _ => fun
  | [d1, d2, d3] => { results := [.lit (.bool false)], args := [d1, d2, d3] }
  | _ => none }
def LogPartsWrongFalsely : Prop := logPartsRow.holds Tryz.pinned (OpenSpec.ofChange logPartsWrong)

/-- 'yardarmlaw.LogMore': WHATEVER THE INPUT: true; the input reads as it did. -/
def logMoreSpec : ChangeSpec := { name := "logMore", fn := fun _ => fun
  | [d1, d2, d3] => { results := [.lit (.bool true)], args := [d1, d2, d3] }
  | _ => none }
def logMoreRow : OpenClaim := { program := "ytjncjiegmnicbaagreat", sum := "ab727d6d687a7cb97486d73901e1bbefa51cdb75f07a738d6f4700423b4ad70c", func := "yardarm/yardarmlaw.LogMore", spec := "logMore", inPlace := ["slices.overlaps[yardarm/api.Pool]", "slices.overlaps[yardarm/api.Addr]", "slices.overlaps[yardarm/api.Lease]"], unfollowed := true, recurses := true, apart := false }
def LogMoreSaid : Prop := logMoreRow.holds Tryz.pinned (OpenSpec.ofChange logMoreSpec)

/-- ITS FALSE NEIGHBOUR: 'it returns false'. Refute it at one input. -/
def logMoreWrong : ChangeSpec := { name := "logMore", fn := fun _ => fun
  | [d1, d2, d3] => { results := [.lit (.bool false)], args := [d1, d2, d3] }
  | _ => none }
def LogMoreWrongFalsely : Prop := logMoreRow.holds Tryz.pinned (OpenSpec.ofChange logMoreWrong)

/-- 'yardarmlaw.ShipNearer': WHATEVER THE INPUT: true; the input reads as it did. -/
def shipNearerSpec : ChangeSpec := { name := "shipNearer", fn := fun _ => fun
  | [d1, d2, d3, d4] => { results := [.lit (.bool true)], args := [d1, d2, d3, d4] }
  | _ => none }
def shipNearerRow : OpenClaim := { program := "ytjncjiegmnicbaagreat", sum := "ab727d6d687a7cb97486d73901e1bbefa51cdb75f07a738d6f4700423b4ad70c", func := "yardarm/yardarmlaw.ShipNearer", spec := "shipNearer", inPlace := ["slices.overlaps[yardarm/api.Pool]", "slices.overlaps[yardarm/api.Addr]", "slices.overlaps[yardarm/api.Lease]"], unfollowed := true, recurses := true, apart := false }
def ShipNearerSaid : Prop := shipNearerRow.holds Tryz.pinned (OpenSpec.ofChange shipNearerSpec)

/-- ITS FALSE NEIGHBOUR: 'it returns false'. Refute it at one input. -/
def shipNearerWrong : ChangeSpec := { name := "shipNearer", fn := fun _ => fun
  | [d1, d2, d3, d4] => { results := [.lit (.bool false)], args := [d1, d2, d3, d4] }
  | _ => none }
def ShipNearerWrongFalsely : Prop := shipNearerRow.holds Tryz.pinned (OpenSpec.ofChange shipNearerWrong)

/-- 'yardarmlaw.ShipWhole': WHATEVER THE INPUT: true; the input reads as it did. -/
def shipWholeSpec : ChangeSpec := { name := "shipWhole", fn := fun _ => fun
  | [d1, d2] => { results := [.lit (.bool true)], args := [d1, d2] }
  | _ => none }
def shipWholeRow : OpenClaim := { program := "ytjncjiegmnicbaagreat", sum := "ab727d6d687a7cb97486d73901e1bbefa51cdb75f07a738d6f4700423b4ad70c", func := "yardarm/yardarmlaw.ShipWhole", spec := "shipWhole", inPlace := ["slices.overlaps[yardarm/api.Pool]", "slices.overlaps[yardarm/api.Addr]", "slices.overlaps[yardarm/api.Lease]"], unfollowed := true, recurses := true, apart := false }
def ShipWholeSaid : Prop := shipWholeRow.holds Tryz.pinned (OpenSpec.ofChange shipWholeSpec)

/-- ITS FALSE NEIGHBOUR: 'it returns false'. Refute it at one input. -/
def shipWholeWrong : ChangeSpec := { name := "shipWhole", fn := fun _ => fun
  | [d1, d2] => { results := [.lit (.bool false)], args := [d1, d2] }
  | _ => none }
def ShipWholeWrongFalsely : Prop := shipWholeRow.holds Tryz.pinned (OpenSpec.ofChange shipWholeWrong)

/-- 'yardarmlaw.FenceElder': WHATEVER THE INPUT: true; the input reads as it did. -/
def fenceElderSpec : ChangeSpec := { name := "fenceElder", fn := fun _ => fun
  | [d1, d2, d3, d4, d5] => { results := [.lit (.bool true)], args := [d1, d2, d3, d4, d5] }
  | _ => none }
def fenceElderRow : OpenClaim := { program := "ytjncjiegmnicbaagreat", sum := "ab727d6d687a7cb97486d73901e1bbefa51cdb75f07a738d6f4700423b4ad70c", func := "yardarm/yardarmlaw.FenceElder", spec := "fenceElder", inPlace := ["slices.overlaps[yardarm/api.Pool]", "slices.overlaps[yardarm/api.Addr]", "slices.overlaps[yardarm/api.Lease]"], unfollowed := true, recurses := true, apart := false }
def FenceElderSaid : Prop := fenceElderRow.holds Tryz.pinned (OpenSpec.ofChange fenceElderSpec)

/-- ITS FALSE NEIGHBOUR: 'it returns false'. Refute it at one input. -/
def fenceElderWrong : ChangeSpec := { name := "fenceElder", fn := fun _ => fun
  | [d1, d2, d3, d4, d5] => { results := [.lit (.bool false)], args := [d1, d2, d3, d4, d5] }
  | _ => none }
def FenceElderWrongFalsely : Prop := fenceElderRow.holds Tryz.pinned (OpenSpec.ofChange fenceElderWrong)

/-- 'yardarmlaw.RestStates': WHATEVER THE INPUT: true; the input reads as it did. -/
def restStatesSpec : ChangeSpec := { name := "restStates", fn := fun _ => fun
  | [d1, d2, d3, d4, d5] => { results := [.lit (.bool true)], args := [d1, d2, d3, d4, d5] }
  | _ => none }
def restStatesRow : OpenClaim := { program := "ytjncjiegmnicbaagreat", sum := "ab727d6d687a7cb97486d73901e1bbefa51cdb75f07a738d6f4700423b4ad70c", func := "yardarm/yardarmlaw.RestStates", spec := "restStates", inPlace := ["slices.overlaps[yardarm/api.Pool]", "slices.overlaps[yardarm/api.Addr]", "slices.overlaps[yardarm/api.Lease]"], unfollowed := true, recurses := true, apart := false }
def RestStatesSaid : Prop := restStatesRow.holds Tryz.pinned (OpenSpec.ofChange restStatesSpec)

/-- ITS FALSE NEIGHBOUR: 'it returns false'. Refute it at one input. -/
def restStatesWrong : ChangeSpec := { name := "restStates", fn := fun _ => fun
  | [d1, d2, d3, d4, d5] => { results := [.lit (.bool false)], args := [d1, d2, d3, d4, d5] }
  | _ => none }
def RestStatesWrongFalsely : Prop := restStatesRow.holds Tryz.pinned (OpenSpec.ofChange restStatesWrong)

/- THE SECOND FORM. 'bulk': how many values and letters a reading holds, each counted each time it is reached (what is shared counts as often as it is met; a slice's spare places count too). A statement '..UptoSaid' is the law's where the arguments, and the package variables that the reading takes, are together of bulk at most 1048576: NARROWER than '..Said'. Prove '..Said' where nothing that the law and all that it calls make is longer than what came in: it says more and counts as full. Else prove '..UptoSaid'. A law counts once. -/
mutual
def uptoBulk {H : Type} : DataW H → Nat
  | .lit (.string bytes) => bytes.length + 1
  | .lit _ => 1
  | .nil => 1
  | .ptr d => uptoBulk d + 1
  | .slice elems spare => uptoBulkAll elems + uptoBulkAll spare + 1
  | .agg parts => uptoBulkAll parts + 1
  | .iface _ d => uptoBulk d + 1
  | .map entries => uptoBulkEntries entries + 1
  | .held _ => 1
def uptoBulkAll {H : Type} : List (DataW H) → Nat
  | [] => 0
  | d :: r => uptoBulk d + uptoBulkAll r
def uptoBulkEntries {H : Type} : List (Lit × DataW H) → Nat
  | [] => 0
  | x :: r => uptoBulkEntry x + uptoBulkEntries r
def uptoBulkEntry {H : Type} : Lit × DataW H → Nat
  | (.string bytes, d) => bytes.length + uptoBulk d + 1
  | (_, d) => uptoBulk d + 1
 end
def uptoSmall : (H : Type) → List (DataW H) → Bool := fun _ ds => decide (uptoBulkAll ds ≤ 1048576)
def OpenSpec.upto (s : _root_.Go.ChangeSpec) : _root_.Go.OpenSpec := { _root_.Go.OpenSpec.ofChange s with cond := some uptoSmall }

/-- 'yardarmlaw.LogTells', WHERE WHAT IT READS IS OF BULK AT MOST 1048576: true; the input reads as it did. -/
def logTellsUptoRow : OpenClaim := { program := "ytjncjiegmnicbaagreat", sum := "ab727d6d687a7cb97486d73901e1bbefa51cdb75f07a738d6f4700423b4ad70c", func := "yardarm/yardarmlaw.LogTells", spec := "logTells", inPlace := ["slices.overlaps[yardarm/api.Pool]", "slices.overlaps[yardarm/api.Addr]", "slices.overlaps[yardarm/api.Lease]"], unfollowed := true, recurses := true, apart := false, narrowed := true }
def LogTellsUptoSaid : Prop := logTellsUptoRow.holds Tryz.pinned (OpenSpec.upto logTellsSpec)

/-- 'yardarmlaw.LogParts', WHERE WHAT IT READS IS OF BULK AT MOST 1048576: true; the input reads as it did. -/
def logPartsUptoRow : OpenClaim := { program := "ytjncjiegmnicbaagreat", sum := "ab727d6d687a7cb97486d73901e1bbefa51cdb75f07a738d6f4700423b4ad70c", func := "yardarm/yardarmlaw.LogParts", spec := "logParts", inPlace := ["slices.overlaps[yardarm/api.Pool]", "slices.overlaps[yardarm/api.Addr]", "slices.overlaps[yardarm/api.Lease]"], unfollowed := true, recurses := true, apart := false, narrowed := true }
def LogPartsUptoSaid : Prop := logPartsUptoRow.holds Tryz.pinned (OpenSpec.upto logPartsSpec)

/-- 'yardarmlaw.LogMore', WHERE WHAT IT READS IS OF BULK AT MOST 1048576: true; the input reads as it did. -/
def logMoreUptoRow : OpenClaim := { program := "ytjncjiegmnicbaagreat", sum := "ab727d6d687a7cb97486d73901e1bbefa51cdb75f07a738d6f4700423b4ad70c", func := "yardarm/yardarmlaw.LogMore", spec := "logMore", inPlace := ["slices.overlaps[yardarm/api.Pool]", "slices.overlaps[yardarm/api.Addr]", "slices.overlaps[yardarm/api.Lease]"], unfollowed := true, recurses := true, apart := false, narrowed := true }
def LogMoreUptoSaid : Prop := logMoreUptoRow.holds Tryz.pinned (OpenSpec.upto logMoreSpec)

/-- 'yardarmlaw.ShipNearer', WHERE WHAT IT READS IS OF BULK AT MOST 1048576: true; the input reads as it did. -/
def shipNearerUptoRow : OpenClaim := { program := "ytjncjiegmnicbaagreat", sum := "ab727d6d687a7cb97486d73901e1bbefa51cdb75f07a738d6f4700423b4ad70c", func := "yardarm/yardarmlaw.ShipNearer", spec := "shipNearer", inPlace := ["slices.overlaps[yardarm/api.Pool]", "slices.overlaps[yardarm/api.Addr]", "slices.overlaps[yardarm/api.Lease]"], unfollowed := true, recurses := true, apart := false, narrowed := true }
def ShipNearerUptoSaid : Prop := shipNearerUptoRow.holds Tryz.pinned (OpenSpec.upto shipNearerSpec)

/-- 'yardarmlaw.ShipWhole', WHERE WHAT IT READS IS OF BULK AT MOST 1048576: true; the input reads as it did. -/
def shipWholeUptoRow : OpenClaim := { program := "ytjncjiegmnicbaagreat", sum := "ab727d6d687a7cb97486d73901e1bbefa51cdb75f07a738d6f4700423b4ad70c", func := "yardarm/yardarmlaw.ShipWhole", spec := "shipWhole", inPlace := ["slices.overlaps[yardarm/api.Pool]", "slices.overlaps[yardarm/api.Addr]", "slices.overlaps[yardarm/api.Lease]"], unfollowed := true, recurses := true, apart := false, narrowed := true }
def ShipWholeUptoSaid : Prop := shipWholeUptoRow.holds Tryz.pinned (OpenSpec.upto shipWholeSpec)

/-- 'yardarmlaw.FenceElder', WHERE WHAT IT READS IS OF BULK AT MOST 1048576: true; the input reads as it did. -/
def fenceElderUptoRow : OpenClaim := { program := "ytjncjiegmnicbaagreat", sum := "ab727d6d687a7cb97486d73901e1bbefa51cdb75f07a738d6f4700423b4ad70c", func := "yardarm/yardarmlaw.FenceElder", spec := "fenceElder", inPlace := ["slices.overlaps[yardarm/api.Pool]", "slices.overlaps[yardarm/api.Addr]", "slices.overlaps[yardarm/api.Lease]"], unfollowed := true, recurses := true, apart := false, narrowed := true }
def FenceElderUptoSaid : Prop := fenceElderUptoRow.holds Tryz.pinned (OpenSpec.upto fenceElderSpec)

/-- 'yardarmlaw.RestStates', WHERE WHAT IT READS IS OF BULK AT MOST 1048576: true; the input reads as it did. -/
def restStatesUptoRow : OpenClaim := { program := "ytjncjiegmnicbaagreat", sum := "ab727d6d687a7cb97486d73901e1bbefa51cdb75f07a738d6f4700423b4ad70c", func := "yardarm/yardarmlaw.RestStates", spec := "restStates", inPlace := ["slices.overlaps[yardarm/api.Pool]", "slices.overlaps[yardarm/api.Addr]", "slices.overlaps[yardarm/api.Lease]"], unfollowed := true, recurses := true, apart := false, narrowed := true }
def RestStatesUptoSaid : Prop := restStatesUptoRow.holds Tryz.pinned (OpenSpec.upto restStatesSpec)

end Rows
end Go.Proofs.YtjncjiegmnicbaaGreat
