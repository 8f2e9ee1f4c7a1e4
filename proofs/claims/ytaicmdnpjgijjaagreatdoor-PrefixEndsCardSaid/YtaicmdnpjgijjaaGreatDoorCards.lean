/-
  DERIVED. GIVEN WITH THE SEED: THE CARDS: each row of YtaicmdnpjgijjaaGreatDoorRows.lean that lists a variable, with what it lists TIED to the program's text (the seventh form; the later family's looks); each row that meets fmt, with fmt's text TOLD by the authors' own Lean function (tested against real Go, not proved from fmt's source: count such statements apart). THE CARD IS WHAT COUNTS. Prove the row's statement (the work); the ties are given (YtaicmdnpjgijjaaGreatDoorTie.lean); close each card by the builder's one call (the guide's Derived/Test/ToyasCard.lean, 'card_holds'). Laid BY PROGRAM, IN A SANDBOX (cutbox-door.mjs). By AI agents, Wed Nov 11 2026. No macro, syntax, notation, axiom, sorry.
-/
import Derived.Test.YtaicmdnpjgijjaaGreatDoorRows
import GoSem.ClaimSeven
namespace Go.Proofs.YtaicmdnpjgijjaaGreatDoor
namespace Rows

/-- THE TIED CARD OF 'yardarmlaw.PrefixApart'. -/
def prefixApartCard : Claim7 := { stood := { row := prefixApartRow, standIns := [], harness := (true, "d12222de74e7980f87be73f1537273dbdee529f740a25c1ccc6255f54b172cee"), looks := true }, kinds := [], alts := [], laidByText := true, laidKinds := [.data, .data, .data, .data, .sentinel, .sentinel, .pinned], laidTests := true, laidLooks := .later }
def PrefixApartCardSaid : Prop := Claim7.holds Tryz.pinned (.plain (OpenSpec.ofChange prefixApartSpec)) prefixApartCard

/-- THE TIED CARD OF 'yardarmlaw.PrefixHalves'. -/
def prefixHalvesCard : Claim7 := { stood := { row := prefixHalvesRow, standIns := [], harness := (true, "d12222de74e7980f87be73f1537273dbdee529f740a25c1ccc6255f54b172cee"), looks := true }, kinds := [], alts := [], laidByText := true, laidKinds := [.data, .data, .data, .data, .sentinel, .sentinel, .pinned], laidTests := true, laidLooks := .later }
def PrefixHalvesCardSaid : Prop := Claim7.holds Tryz.pinned (.plain (OpenSpec.ofChange prefixHalvesSpec)) prefixHalvesCard

/-- THE TIED CARD OF 'yardarmlaw.PrefixEnds'. -/
def prefixEndsCard : Claim7 := { stood := { row := prefixEndsRow, standIns := [], harness := (true, "d12222de74e7980f87be73f1537273dbdee529f740a25c1ccc6255f54b172cee"), looks := true }, kinds := [], alts := [], laidByText := true, laidKinds := [.data, .data, .data, .data, .sentinel, .sentinel, .pinned], laidTests := true, laidLooks := .later }
def PrefixEndsCardSaid : Prop := Claim7.holds Tryz.pinned (.plain (OpenSpec.ofChange prefixEndsSpec)) prefixEndsCard

/-- THE TIED CARD OF 'yardarmlaw.TableTree'. -/
def tableTreeCard : Claim7 := { stood := { row := tableTreeRow, standIns := [], harness := (true, "d12222de74e7980f87be73f1537273dbdee529f740a25c1ccc6255f54b172cee"), looks := true }, kinds := [], alts := [], laidByText := true, laidKinds := [.data, .data, .data, .data, .sentinel, .sentinel, .pinned], laidTests := true, laidLooks := .later }
def TableTreeCardSaid : Prop := Claim7.holds Tryz.pinned (.plain (OpenSpec.ofChange tableTreeSpec)) tableTreeCard

/-- THE TIED CARD OF 'yardarmlaw.TableMore'. -/
def tableMoreCard : Claim7 := { stood := { row := tableMoreRow, standIns := [], harness := (true, "d12222de74e7980f87be73f1537273dbdee529f740a25c1ccc6255f54b172cee"), looks := true }, kinds := [], alts := [], laidByText := true, laidKinds := [.data, .data, .data, .data, .sentinel, .sentinel, .pinned], laidTests := true, laidLooks := .later }
def TableMoreCardSaid : Prop := Claim7.holds Tryz.pinned (.plain (OpenSpec.ofChange tableMoreSpec)) tableMoreCard

/-- THE SECOND FORM's CARD OF 'yardarmlaw.PrefixApart'. -/
def prefixApartUptoCard : Claim7 := { stood := { row := prefixApartUptoRow, standIns := [], harness := (true, "d12222de74e7980f87be73f1537273dbdee529f740a25c1ccc6255f54b172cee"), looks := true }, kinds := [], alts := [], laidByText := true, laidKinds := [.data, .data, .data, .data, .sentinel, .sentinel, .pinned], laidTests := true, laidLooks := .later }
def PrefixApartUptoCardSaid : Prop := Claim7.holds Tryz.pinned (.plain (OpenSpec.upto prefixApartSpec)) prefixApartUptoCard

/-- THE SECOND FORM's CARD OF 'yardarmlaw.PrefixHalves'. -/
def prefixHalvesUptoCard : Claim7 := { stood := { row := prefixHalvesUptoRow, standIns := [], harness := (true, "d12222de74e7980f87be73f1537273dbdee529f740a25c1ccc6255f54b172cee"), looks := true }, kinds := [], alts := [], laidByText := true, laidKinds := [.data, .data, .data, .data, .sentinel, .sentinel, .pinned], laidTests := true, laidLooks := .later }
def PrefixHalvesUptoCardSaid : Prop := Claim7.holds Tryz.pinned (.plain (OpenSpec.upto prefixHalvesSpec)) prefixHalvesUptoCard

/-- THE SECOND FORM's CARD OF 'yardarmlaw.PrefixEnds'. -/
def prefixEndsUptoCard : Claim7 := { stood := { row := prefixEndsUptoRow, standIns := [], harness := (true, "d12222de74e7980f87be73f1537273dbdee529f740a25c1ccc6255f54b172cee"), looks := true }, kinds := [], alts := [], laidByText := true, laidKinds := [.data, .data, .data, .data, .sentinel, .sentinel, .pinned], laidTests := true, laidLooks := .later }
def PrefixEndsUptoCardSaid : Prop := Claim7.holds Tryz.pinned (.plain (OpenSpec.upto prefixEndsSpec)) prefixEndsUptoCard

/-- THE SECOND FORM's CARD OF 'yardarmlaw.TableTree'. -/
def tableTreeUptoCard : Claim7 := { stood := { row := tableTreeUptoRow, standIns := [], harness := (true, "d12222de74e7980f87be73f1537273dbdee529f740a25c1ccc6255f54b172cee"), looks := true }, kinds := [], alts := [], laidByText := true, laidKinds := [.data, .data, .data, .data, .sentinel, .sentinel, .pinned], laidTests := true, laidLooks := .later }
def TableTreeUptoCardSaid : Prop := Claim7.holds Tryz.pinned (.plain (OpenSpec.upto tableTreeSpec)) tableTreeUptoCard

/-- THE SECOND FORM's CARD OF 'yardarmlaw.TableMore'. -/
def tableMoreUptoCard : Claim7 := { stood := { row := tableMoreUptoRow, standIns := [], harness := (true, "d12222de74e7980f87be73f1537273dbdee529f740a25c1ccc6255f54b172cee"), looks := true }, kinds := [], alts := [], laidByText := true, laidKinds := [.data, .data, .data, .data, .sentinel, .sentinel, .pinned], laidTests := true, laidLooks := .later }
def TableMoreUptoCardSaid : Prop := Claim7.holds Tryz.pinned (.plain (OpenSpec.upto tableMoreSpec)) tableMoreUptoCard
end Rows
end Go.Proofs.YtaicmdnpjgijjaaGreatDoor
