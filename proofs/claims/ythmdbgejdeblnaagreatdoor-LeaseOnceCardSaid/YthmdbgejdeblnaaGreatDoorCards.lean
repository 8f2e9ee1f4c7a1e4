/-
  DERIVED. GIVEN WITH THE SEED: THE CARDS: each row of YthmdbgejdeblnaaGreatDoorRows.lean that lists a variable, with what it lists TIED to the program's text (the seventh form; the later family's looks); each row that meets fmt, with fmt's text TOLD by the authors' own Lean function (tested against real Go, not proved from fmt's source: count such statements apart). THE CARD IS WHAT COUNTS. Prove the row's statement (the work); the ties are given (YthmdbgejdeblnaaGreatDoorTie.lean); close each card by the builder's one call (the guide's Derived/Test/ToyasCard.lean, 'card_holds'). Laid BY PROGRAM, IN A SANDBOX (cutbox-door.mjs). By AI agents, Wed Nov 11 2026. No macro, syntax, notation, axiom, sorry.
-/
import Derived.Test.YthmdbgejdeblnaaGreatDoorRows
import GoSem.ClaimSeven
namespace Go.Proofs.YthmdbgejdeblnaaGreatDoor
namespace Rows

/-- THE TIED CARD OF 'yardarmlaw.LeaseFirst'. -/
def leaseFirstCard : Claim7 := { stood := { row := leaseFirstRow, standIns := [], harness := (true, "fe917a7e042099b9790aa0f5791deaa3c050e762fb4f1c76144db7d6de746ea2"), looks := true }, kinds := [], alts := [], laidByText := true, laidKinds := [.data, .data, .data, .data, .sentinel, .sentinel, .pinned], laidTests := true, laidLooks := .later }
def LeaseFirstCardSaid : Prop := Claim7.holds Tryz.pinned (.plain (OpenSpec.ofChange leaseFirstSpec)) leaseFirstCard

/-- THE TIED CARD OF 'yardarmlaw.LeaseOnce'. -/
def leaseOnceCard : Claim7 := { stood := { row := leaseOnceRow, standIns := [], harness := (true, "fe917a7e042099b9790aa0f5791deaa3c050e762fb4f1c76144db7d6de746ea2"), looks := true }, kinds := [], alts := [], laidByText := true, laidKinds := [.data, .data, .data, .data, .sentinel, .sentinel, .pinned], laidTests := true, laidLooks := .later }
def LeaseOnceCardSaid : Prop := Claim7.holds Tryz.pinned (.plain (OpenSpec.ofChange leaseOnceSpec)) leaseOnceCard

/-- THE SECOND FORM's CARD OF 'yardarmlaw.LeaseFirst'. -/
def leaseFirstUptoCard : Claim7 := { stood := { row := leaseFirstUptoRow, standIns := [], harness := (true, "fe917a7e042099b9790aa0f5791deaa3c050e762fb4f1c76144db7d6de746ea2"), looks := true }, kinds := [], alts := [], laidByText := true, laidKinds := [.data, .data, .data, .data, .sentinel, .sentinel, .pinned], laidTests := true, laidLooks := .later }
def LeaseFirstUptoCardSaid : Prop := Claim7.holds Tryz.pinned (.plain (OpenSpec.upto leaseFirstSpec)) leaseFirstUptoCard

/-- THE SECOND FORM's CARD OF 'yardarmlaw.LeaseOnce'. -/
def leaseOnceUptoCard : Claim7 := { stood := { row := leaseOnceUptoRow, standIns := [], harness := (true, "fe917a7e042099b9790aa0f5791deaa3c050e762fb4f1c76144db7d6de746ea2"), looks := true }, kinds := [], alts := [], laidByText := true, laidKinds := [.data, .data, .data, .data, .sentinel, .sentinel, .pinned], laidTests := true, laidLooks := .later }
def LeaseOnceUptoCardSaid : Prop := Claim7.holds Tryz.pinned (.plain (OpenSpec.upto leaseOnceSpec)) leaseOnceUptoCard
end Rows
end Go.Proofs.YthmdbgejdeblnaaGreatDoor
