/-
  DERIVED. GIVEN WITH THE SEED: THE CARDS: each row of YtfkfpgoicmfpkaaGreatDoorRows.lean that lists a variable, with what it lists TIED to the program's text (the seventh form; the later family's looks); each row that meets fmt, with fmt's text TOLD by the authors' own Lean function (tested against real Go, not proved from fmt's source: count such statements apart). THE CARD IS WHAT COUNTS. Prove the row's statement (the work); the ties are given (YtfkfpgoicmfpkaaGreatDoorTie.lean); close each card by the builder's one call (the guide's Derived/Test/ToyasCard.lean, 'card_holds'). Laid BY PROGRAM, IN A SANDBOX (cutbox-door.mjs). By AI agents, Wed Nov 11 2026. No macro, syntax, notation, axiom, sorry.
-/
import Derived.Test.YtfkfpgoicmfpkaaGreatDoorRows
import GoSem.ClaimSeven
namespace Go.Proofs.YtfkfpgoicmfpkaaGreatDoor
namespace Rows

/-- THE TIED CARD OF 'yardarmlaw.SpanSame'. -/
def spanSameCard : Claim7 := { stood := { row := spanSameRow, standIns := [], harness := (true, "76505e216961da1a4d81b1966ba147bc6b876dd2dd2ec5a1b0e518a971925c60"), looks := true }, kinds := [], alts := [], laidByText := true, laidKinds := [.data, .data, .data, .data, .sentinel, .sentinel, .pinned], laidTests := true, laidLooks := .later }
def SpanSameCardSaid : Prop := Claim7.holds Tryz.pinned (.plain (OpenSpec.ofChange spanSameSpec)) spanSameCard

/-- THE TIED CARD OF 'yardarmlaw.SpanApart'. -/
def spanApartCard : Claim7 := { stood := { row := spanApartRow, standIns := [], harness := (true, "76505e216961da1a4d81b1966ba147bc6b876dd2dd2ec5a1b0e518a971925c60"), looks := true }, kinds := [], alts := [], laidByText := true, laidKinds := [.data, .data, .data, .data, .sentinel, .sentinel, .pinned], laidTests := true, laidLooks := .later }
def SpanApartCardSaid : Prop := Claim7.holds Tryz.pinned (.plain (OpenSpec.ofChange spanApartSpec)) spanApartCard

/-- THE TIED CARD OF 'yardarmlaw.SpanAdds'. -/
def spanAddsCard : Claim7 := { stood := { row := spanAddsRow, standIns := [], harness := (true, "76505e216961da1a4d81b1966ba147bc6b876dd2dd2ec5a1b0e518a971925c60"), looks := true }, kinds := [], alts := [], laidByText := true, laidKinds := [.data, .data, .data, .data, .sentinel, .sentinel, .pinned], laidTests := true, laidLooks := .later }
def SpanAddsCardSaid : Prop := Claim7.holds Tryz.pinned (.plain (OpenSpec.ofChange spanAddsSpec)) spanAddsCard

/-- THE TIED CARD OF 'yardarmlaw.PickClear'. -/
def pickClearCard : Claim7 := { stood := { row := pickClearRow, standIns := [], harness := (true, "76505e216961da1a4d81b1966ba147bc6b876dd2dd2ec5a1b0e518a971925c60"), looks := true }, kinds := [], alts := [], laidByText := true, laidKinds := [.data, .data, .data, .data, .sentinel, .sentinel, .pinned], laidTests := true, laidLooks := .later }
def PickClearCardSaid : Prop := Claim7.holds Tryz.pinned (.plain (OpenSpec.ofChange pickClearSpec)) pickClearCard

/-- THE TIED CARD OF 'yardarmlaw.PickAll'. -/
def pickAllCard : Claim7 := { stood := { row := pickAllRow, standIns := [], harness := (true, "76505e216961da1a4d81b1966ba147bc6b876dd2dd2ec5a1b0e518a971925c60"), looks := true }, kinds := [], alts := [], laidByText := true, laidKinds := [.data, .data, .data, .data, .sentinel, .sentinel, .pinned], laidTests := true, laidLooks := .later }
def PickAllCardSaid : Prop := Claim7.holds Tryz.pinned (.plain (OpenSpec.ofChange pickAllSpec)) pickAllCard

/-- THE TIED CARD OF 'yardarmlaw.PrefixHalves'. -/
def prefixHalvesCard : Claim7 := { stood := { row := prefixHalvesRow, standIns := [], harness := (true, "76505e216961da1a4d81b1966ba147bc6b876dd2dd2ec5a1b0e518a971925c60"), looks := true }, kinds := [], alts := [], laidByText := true, laidKinds := [.data, .data, .data, .data, .sentinel, .sentinel, .pinned], laidTests := true, laidLooks := .later }
def PrefixHalvesCardSaid : Prop := Claim7.holds Tryz.pinned (.plain (OpenSpec.ofChange prefixHalvesSpec)) prefixHalvesCard

/-- THE SECOND FORM's CARD OF 'yardarmlaw.SpanSame'. -/
def spanSameUptoCard : Claim7 := { stood := { row := spanSameUptoRow, standIns := [], harness := (true, "76505e216961da1a4d81b1966ba147bc6b876dd2dd2ec5a1b0e518a971925c60"), looks := true }, kinds := [], alts := [], laidByText := true, laidKinds := [.data, .data, .data, .data, .sentinel, .sentinel, .pinned], laidTests := true, laidLooks := .later }
def SpanSameUptoCardSaid : Prop := Claim7.holds Tryz.pinned (.plain (OpenSpec.upto spanSameSpec)) spanSameUptoCard

/-- THE SECOND FORM's CARD OF 'yardarmlaw.SpanApart'. -/
def spanApartUptoCard : Claim7 := { stood := { row := spanApartUptoRow, standIns := [], harness := (true, "76505e216961da1a4d81b1966ba147bc6b876dd2dd2ec5a1b0e518a971925c60"), looks := true }, kinds := [], alts := [], laidByText := true, laidKinds := [.data, .data, .data, .data, .sentinel, .sentinel, .pinned], laidTests := true, laidLooks := .later }
def SpanApartUptoCardSaid : Prop := Claim7.holds Tryz.pinned (.plain (OpenSpec.upto spanApartSpec)) spanApartUptoCard

/-- THE SECOND FORM's CARD OF 'yardarmlaw.SpanAdds'. -/
def spanAddsUptoCard : Claim7 := { stood := { row := spanAddsUptoRow, standIns := [], harness := (true, "76505e216961da1a4d81b1966ba147bc6b876dd2dd2ec5a1b0e518a971925c60"), looks := true }, kinds := [], alts := [], laidByText := true, laidKinds := [.data, .data, .data, .data, .sentinel, .sentinel, .pinned], laidTests := true, laidLooks := .later }
def SpanAddsUptoCardSaid : Prop := Claim7.holds Tryz.pinned (.plain (OpenSpec.upto spanAddsSpec)) spanAddsUptoCard

/-- THE SECOND FORM's CARD OF 'yardarmlaw.PickClear'. -/
def pickClearUptoCard : Claim7 := { stood := { row := pickClearUptoRow, standIns := [], harness := (true, "76505e216961da1a4d81b1966ba147bc6b876dd2dd2ec5a1b0e518a971925c60"), looks := true }, kinds := [], alts := [], laidByText := true, laidKinds := [.data, .data, .data, .data, .sentinel, .sentinel, .pinned], laidTests := true, laidLooks := .later }
def PickClearUptoCardSaid : Prop := Claim7.holds Tryz.pinned (.plain (OpenSpec.upto pickClearSpec)) pickClearUptoCard

/-- THE SECOND FORM's CARD OF 'yardarmlaw.PickAll'. -/
def pickAllUptoCard : Claim7 := { stood := { row := pickAllUptoRow, standIns := [], harness := (true, "76505e216961da1a4d81b1966ba147bc6b876dd2dd2ec5a1b0e518a971925c60"), looks := true }, kinds := [], alts := [], laidByText := true, laidKinds := [.data, .data, .data, .data, .sentinel, .sentinel, .pinned], laidTests := true, laidLooks := .later }
def PickAllUptoCardSaid : Prop := Claim7.holds Tryz.pinned (.plain (OpenSpec.upto pickAllSpec)) pickAllUptoCard

/-- THE SECOND FORM's CARD OF 'yardarmlaw.PrefixHalves'. -/
def prefixHalvesUptoCard : Claim7 := { stood := { row := prefixHalvesUptoRow, standIns := [], harness := (true, "76505e216961da1a4d81b1966ba147bc6b876dd2dd2ec5a1b0e518a971925c60"), looks := true }, kinds := [], alts := [], laidByText := true, laidKinds := [.data, .data, .data, .data, .sentinel, .sentinel, .pinned], laidTests := true, laidLooks := .later }
def PrefixHalvesUptoCardSaid : Prop := Claim7.holds Tryz.pinned (.plain (OpenSpec.upto prefixHalvesSpec)) prefixHalvesUptoCard
end Rows
end Go.Proofs.YtfkfpgoicmfpkaaGreatDoor
