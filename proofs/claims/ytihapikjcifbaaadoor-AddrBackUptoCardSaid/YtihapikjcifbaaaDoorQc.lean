/-
  What an address's parser answers: the plain form of a function that catches its own panics.
-/
import Derived.Test.YtihapikjcifbaaaDoorQk
import Derived.Test.YtihapikjcifbaaaDoorQp
namespace Go.Ma
open Go
def colonIn (s : ByteArray) : Bool := decide (0 ≤ Lib.indexByte s.data.toList 58)
def toldF (s : ByteArray) : Option Ad := if colonIn s = true then sixteenF s else (fourF s).map fun u => ⟨false, 0, u⟩
def toldA (s : ByteArray) : Ad := match toldF s with | some a => a | none => ⟨false, 0, 0⟩
def addr_told_t (s : ByteArray) : Option (Ad × Bool × Unit) := req (Nat.ble s.size 4294967200) (some (toldA s, (toldF s).isSome, ()))
end Go.Ma
