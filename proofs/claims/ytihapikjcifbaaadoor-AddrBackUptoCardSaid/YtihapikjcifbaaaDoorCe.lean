/-
  Door seats: what addrBegun comes to.
-/
import Derived.Test.YtihapikjcifbaaaDoorPo
import Derived.Test.YtihapikjcifbaaaDoorCa
namespace Go.Ma
open Go

def ab0 : Ad := ⟨true, 2306139568115548160, 281474993619716⟩
theorem ab_parse0 : addr_Parse_t (⟨#[50, 48, 48, 49, 58, 68, 66, 56, 58, 48, 58, 48, 58, 49, 58, 58, 49, 46, 50, 46, 51, 46, 52]⟩ : ByteArray) = some (ab0, 0, ()) := by kernel_rfl
theorem ab_print0 : addr_Print_t ab0 = some (⟨#[50, 48, 48, 49, 58, 100, 98, 56, 58, 58, 49, 58, 48, 58, 49, 48, 50, 58, 51, 48, 52]⟩, 0, ()) := by kernel_rfl
theorem ab_parse1 : addr_Parse_t (⟨#[49, 48, 46, 48, 46, 48, 46, 50, 53, 53]⟩ : ByteArray) = some (⟨false, 0, 167772415⟩, 0, ()) := by kernel_rfl
theorem ab_next : addr_Next_t ⟨false, 0, 167772415⟩ = some (⟨false, 0, 167772416⟩, true, 0, ()) := by
  unfold addr_Next_t
  simp only [addr_After_all]
  kernel_rfl
theorem ab_less : addr_Less_t ⟨false, 0, 167772415⟩ ab0 = some (true, 0, ()) := by kernel_rfl
theorem ab_print1 : addr_Print_t ⟨true, 0, 0⟩ = some (⟨#[58, 58]⟩, 0, ()) := by kernel_rfl
theorem ab_parse2 : addr_Parse_t (⟨#[49, 58, 58, 50, 58, 58, 51]⟩ : ByteArray) = some (⟨false, 0, 0⟩, 1, ()) := by kernel_rfl
theorem addrBegun_eq : law_addrBegun_t = some (true, ()) := by
  unfold law_addrBegun_t
  rw [ab_parse0, bind_s, ab_print0, bind_s, ab_parse1, bind_s, ab_next, bind_s, ab_less, bind_s, ab_print1, bind_s, ab_parse2, bind_s]
  kernel_rfl
end Go.Ma
