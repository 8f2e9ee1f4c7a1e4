/-
  What a parser of addresses makes of a text, in plain Lean:
-/
import Derived.Test.YthmdbgejdeblnaaGreatDoorQa
import Derived.Laws.Entries
namespace Go.Ma
open Go
/-- A letter, made small. -/
def lowQ (c : UInt8) : Int := bits .or .u8 (c.toNat : Int) 32
/-- What a digit of base 16 says. -/
def hexv (c : UInt8) : Option Nat :=
  if 48 ≤ c.toNat ∧ c.toNat ≤ 57 then some (c.toNat - 48) else if 97 ≤ lowQ c ∧ lowQ c ≤ 102 then some ((lowQ c).toNat - 87) else none
def hexF : List UInt8 → Nat → Option Nat
  | [], a => some a
  | c :: r, a => match hexv c with
    | none => none
    | some d => if 4294967295 < a * 16 + d then none else hexF r (a * 16 + d)
/-- What a numeral of base 16 ends with. -/
inductive HexEnd (et : TypeId) (l : List UInt8) (a : Nat) (u : Int) (ev : Value) : Prop
  | ok {n : Nat} (h : hexF l a = some n) (hu : u = n := by rfl) (he : ev = .nilIface := by rfl) : HexEnd et l a u ev
  | bad (h : hexF l a = none) (he : ev = .iface et (.int .i64 2) ∨ ev = .iface et (.int .i64 1)) : HexEnd et l a u ev
def hexU (s : ByteArray) : Option Nat := if s.size = 0 then none else hexF s.data.toList 0
def decU (s : ByteArray) : Option Nat := match Lib.parseUintB 32 s.data.toList with
  | .ok u => some u
  | _ => none
def numU (base : Int) (s : ByteArray) : Option Nat := if base = 10 then decU s else hexU s
/-- A number of a base that must be, of at most so many digits, at most so great. -/
def partF (s : ByteArray) (base digits most : Int) : Option Int :=
  if s.data.toList.all plainB = true then
    match numU base s with
    | none => none
    | some u => if digits < s.size ∨ most < u ∨ (base = 10 ∧ 1 < s.size ∧ s.data.toList.head? = some 48) then none else some (u : Int)
  else none
end Go.Ma
