/-
  What numbers are printed as at base 16 and base 10, in plain Lean:
-/
import Derived.Test.YthmdbgejdeblnaaGreatDoorQk
namespace Go.Ma
open Go
def hexD (d : Nat) : UInt8 := if d < 10 then UInt8.ofNat (48 + d) else UInt8.ofNat (87 + d)
def hex4 (n : Nat) : List UInt8 :=
  if n < 16 then [hexD n] else if n < 256 then [hexD (n / 16), hexD (n % 16)] else if n < 4096 then [hexD (n / 256), hexD (n / 16 % 16), hexD (n % 16)] else [hexD (n / 4096), hexD (n / 256 % 16), hexD (n / 16 % 16), hexD (n % 16)]
def dec3 (n : Nat) : List UInt8 :=
  if n < 10 then [UInt8.ofNat (48 + n)] else if n < 100 then [UInt8.ofNat (48 + n / 10), UInt8.ofNat (48 + n % 10)] else [UInt8.ofNat (48 + n / 100), UInt8.ofNat (48 + n / 10 % 10), UInt8.ofNat (48 + n % 10)]
theorem hex4_step (u : Nat) (h : 16 ≤ u) (h2 : u < 65536) : hex4 u = hex4 (u / 16) ++ [hexD (u % 16)] := by
  unfold hex4
  rw [if_neg (by omega : ¬ u < 16)]
  by_cases h3 : u < 256
  · rw [if_pos h3, if_pos (by omega)]; rfl
  · rw [if_neg h3, if_neg (by omega : ¬ u / 16 < 16)]
    by_cases h4 : u < 4096
    · rw [if_pos h4, if_pos (by omega), show u / 16 / 16 = u / 256 by omega]; rfl
    · rw [if_neg h4, if_neg (by omega), if_pos (by omega), show u / 16 / 256 = u / 4096 by omega, show u / 16 / 16 % 16 = u / 256 % 16 by omega]; rfl
theorem dec3_eq (n : Nat) (h : n < 1000) : Lib.decDigits n = dec3 n := by
  unfold dec3
  by_cases h1 : n < 10
  · rw [if_pos h1, Lib.decDigits, dif_pos h1]
  · rw [if_neg h1, Lib.decDigits, dif_neg h1]
    by_cases h2 : n < 100
    · rw [if_pos h2, Lib.decDigits, dif_pos (by omega)]; rfl
    · rw [if_neg h2, Lib.decDigits, dif_neg (by omega), Lib.decDigits, dif_pos (by omega), show n / 10 / 10 = n / 100 by omega]; rfl
def strconv_FormatUint_t (n b : Int) : Option (ByteArray × Unit) :=
  if b = 16 then req (decide (0 ≤ n) && decide (n < 65536)) (some (⟨(hex4 n.toNat).toArray⟩, ()))
  else req (decide (b = 10) && (decide (0 ≤ n) && decide (n < 256))) (some (⟨(dec3 n.toNat).toArray⟩, ()))
end Go.Ma
