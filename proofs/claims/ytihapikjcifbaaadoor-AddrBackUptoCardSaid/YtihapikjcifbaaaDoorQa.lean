/-
  Plain forms made by hand: functions of Go's library that this program calls on strings; addr.part, prefix.Digits.
-/
import Derived.Test.YtihapikjcifbaaaDoorPl
import Derived.Lib.Split
import Derived.Lib.SplitLaws
import Derived.Lib.Join
import Derived.Lib.ItoaNum
import Derived.Lib.Atoi
import Derived.Lib.ParseIntB
import Derived.Lib.Bytealg
namespace Go.Ma
open Go

def internal_stringslite_Index_t (s sep : ByteArray) : Option (Int × Unit) := match sep.data.toList with | [c] => some (Lib.indexByte s.data.toList c, ()) | _ => none
def strings_Split_t (s sep : ByteArray) : Option (List ByteArray × Unit) := req (Nat.ble s.size 1024 && Nat.beq sep.size 1) (some (Lib.splitB sep 0 (Lib.countB s sep) s, ()))
/-- No sign, no line below. -/
def plainB (b : UInt8) : Bool := !(b == 43) && !(b == 45) && !(b == 95)
def strconv_Itoa_t (n : Int) : Option (ByteArray × Unit) := req (decide (0 ≤ n) && decide (n < 100)) (some (⟨(Lib.decDigits n.toNat).toArray⟩, ()))
def internal_strconv_small_t (n : Int) : Option (ByteArray × Unit) := req (decide (0 ≤ n) && decide (n < 100)) (some (⟨(Lib.decDigits n.toNat).toArray⟩, ()))
def strings_Join_t (l : List ByteArray) (sep : ByteArray) : Option (ByteArray × Unit) :=
  req (Nat.ble l.length 1024 && Nat.ble (Lib.join (l.map (·.data.toList)) sep.data.toList).length 1099511627776) (some (⟨(Lib.join (l.map (·.data.toList)) sep.data.toList).toArray⟩, ()))
def prefix_Digits_t (s : ByteArray) : Option (Int × Bool × Unit) :=
  req (Nat.ble s.size 18) <|
  match Lib.atoi s.data.toList with
  | some n => req (decide (0 ≤ n) && decide (n < 100)) (some (n, decide (s.size ≤ 4) && ((⟨(Lib.decDigits n.toNat).toArray⟩ : ByteArray) == s), ()))
  | none => none
end Go.Ma
