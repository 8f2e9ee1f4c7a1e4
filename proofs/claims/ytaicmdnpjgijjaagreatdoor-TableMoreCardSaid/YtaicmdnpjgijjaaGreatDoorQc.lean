/-
  The plain form made by hand of a function that catches its own panics: a text with a ':' is not covered.
-/
import Derived.Test.YtaicmdnpjgijjaaGreatDoorPm
import Derived.Test.YtaicmdnpjgijjaaGreatDoorHa
namespace Go.Ma
open Go
noncomputable def addr_told_t (s : ByteArray) : Option (Ad × Bool × Unit) :=
  (strings_Contains_t s ⟨#[58]⟩).bind fun c => req (!c.1) <| (addr_four_t s).bind fun y => some (⟨false, 0, y.1⟩, true, ())
end Go.Ma
