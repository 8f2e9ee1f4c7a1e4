/-
  What a parser of addresses makes of a text, in plain Lean: four bytes, groups, an address.
-/
import Derived.Test.YtihapikjcifbaaaDoorQf
import Derived.Lib.IndexMore
namespace Go.Ma
open Go
def splitOn (s : ByteArray) (c : UInt8) : List ByteArray := Lib.splitB ⟨#[c]⟩ 0 (Lib.countB s ⟨#[c]⟩) s
def fourL : List ByteArray → Int → Option Int
  | [], n => some n
  | x :: r, n => match partF x 10 3 255 with
    | none => none
    | some u => fourL r (aop .or .u64 (aop .shl .u64 n 8) u)
def fourF (s : ByteArray) : Option Int := if (splitOn s 46).length = 4 then fourL (splitOn s 46) 0 else none
def dotIn (x : ByteArray) : Bool := decide (0 ≤ Lib.indexByte x.data.toList 46)
def someL (last : Bool) (len : Nat) : List ByteArray → Nat → List Int → Option (List Int)
  | [], _, out => some out
  | x :: r, i, out => if last = true ∧ i + 1 = len ∧ dotIn x = true then
      match fourF x with
      | none => none
      | some n => someL last len r (i + 1) (out ++ [n / 65536, aop .and .u64 n 65535])
    else
      match partF x 16 4 65535 with
      | none => none
      | some u => someL last len r (i + 1) (out ++ [u])
def someF (s : ByteArray) (last : Bool) : Option (List Int) := if s.size = 0 then some [] else someL last (splitOn s 58).length (splitOn s 58) 0 []
def packI : List Int → Int → Int
  | [], h => h
  | x :: r, h => packI r (aop .or .u64 (aop .shl .u64 h 16) x)
def packA (l : List Int) : Ad := ⟨true, packI (l.take 4) 0, packI ((l.drop 4).take 4) 0⟩
def cut1 (s : ByteArray) : ByteArray := ⟨(Lib.cut s.data.toList [58, 58]).1.toArray⟩
def cut2 (s : ByteArray) : ByteArray := ⟨(Lib.cut s.data.toList [58, 58]).2.1.toArray⟩
def cut3 (s : ByteArray) : Bool := (Lib.cut s.data.toList [58, 58]).2.2
def sixteenF (s : ByteArray) : Option Ad :=
  if cut3 s = true then
    match someF (cut1 s) false with
    | none => none
    | some l => match someF (cut2 s) true with
      | none => none
      | some m => if 7 < l.length + m.length then none else some (packA (l ++ List.replicate (8 - l.length - m.length) 0 ++ m))
  else match someF s true with
    | none => none
    | some l => if l.length = 8 then some (packA l) else none
end Go.Ma
