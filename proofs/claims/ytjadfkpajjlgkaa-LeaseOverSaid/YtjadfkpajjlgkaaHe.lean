/-
  Plain forms made by hand, where the machine knows no way: (*book).first (a range over a function), lease.Twice (a map), R.NextOf ([]byte of a string).
-/
import Derived.Test.YtjadfkpajjlgkaaPl
namespace Go.Ma
open Go

/-- The addresses from a on up to last, in order. -/
noncomputable def allA (last : Ad) : Nat → Ad → Option (List Ad)
  | 0, _ => none
  | k + 1, a => br (decide (a = last)) (some [a]) ((addr_After_t a).bind fun y => br y.2.1 ((allA last k y.1).map (a :: ·)) (some [a]))
/-- The first of them that is not taken. -/
noncomputable def firstIn (p : Pf) (as : List Ad) (ls : List Ls) : List Ad → Option (Ad × Bool × Unit)
  | [] => some (⟨false, 0, 0⟩, false, ())
  | a :: r => (m_lease_book__taken_t p as ls a).bind fun t => (firstIn p as ls r).bind fun y => some (bif t.1 then y else (a, true, ()))
/-- (*yardarm/lease.book).first -/
noncomputable def m_lease_book__first_t (p : Pf) (as : List Ad) (ls : List Ls) : Option (Ad × Bool × Unit) :=
  (prefix_Last_t p).bind fun y => (allA y.1 64 p.ad).bind fun xs => firstIn p as ls xs

/-- Is somebody met twice? -/
def twiceL : List ByteArray → List Ls → Bool
  | _, [] => false
  | seen, x :: r => bif seen.any (fun s => decide (s = x.who)) then true else twiceL (x.who :: seen) r
/-- yardarm/lease.Twice -/
def lease_Twice_t (l : List Ls) : Option (Bool × Unit) := req (Nat.ble l.length 1024 && l.all (fun x => Nat.ble x.who.size 1024)) (some (twiceL [] l, ()))

/-- One more, the last bit first. -/
def incR : List UInt8 → Option (List UInt8)
  | [] => none
  | c :: r => if c = 48 then some (49 :: r) else (incR r).map (48 :: ·)
/-- yardarm/yardarmref.NextOf -/
noncomputable def R_NextOf_t (a : Ad) : Option (Ad × Bool × Unit) :=
  (R_Bits_t a).bind fun y => req (Nat.ble y.1.size 1024) <|
  match incR y.1.data.toList.reverse with
  | some l => (R_AddrOf_t ⟨l.reverse.toArray⟩).bind fun z => some (z.1, true, ())
  | none => some (⟨false, 0, 0⟩, false, ())
end Go.Ma
