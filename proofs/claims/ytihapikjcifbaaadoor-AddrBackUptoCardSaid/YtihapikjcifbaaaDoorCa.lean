/-
  Door seats: splits, joins; what prefixBegun comes to.
-/
import Derived.Test.YtihapikjcifbaaaDoorPa
import Derived.Test.YtihapikjcifbaaaDoorPm
namespace Go.Ma
open Go

theorem req_twice {X : Type} (c : Bool) (a : Option X) : req c (req c a) = req c a := by cases c <;> rfl
def afterA (a : Ad) : Ad × Bool × Unit :=
  bif a.v6 && decide (aop .add .u64 a.lo 1 = 0) then (⟨a.v6, aop .add .u64 a.hi 1, aop .add .u64 a.lo 1⟩, !decide (aop .add .u64 a.hi 1 = 0), ())
  else (⟨a.v6, a.hi, aop .add .u64 a.lo 1⟩, bif a.v6 then true else decide (aop .add .u64 a.lo 1 < 4294967296), ())
theorem addr_After_all (a : Ad) : addr_After_t a = some (afterA a) := by
  unfold addr_After_t afterA
  simp only [dup_eq, both_self]
  cases h : a.v6 <;> cases h2 : decide (aop .add .u64 a.lo 1 = 0) <;> simp [br, h, both_self] <;> rfl
def pb0 : Pf := ⟨⟨false, 0, 167772160⟩, 30⟩
def pb1 : Pf := ⟨⟨false, 0, 167772160⟩, 31⟩
def pb2 : Pf := ⟨⟨false, 0, 167772162⟩, 31⟩
theorem pb_v0 : law_v4_t 167772160 = some (⟨false, 0, 167772160⟩, ()) := by kernel_rfl
theorem pb_v3 : law_v4_t 167772163 = some (⟨false, 0, 167772163⟩, ()) := by kernel_rfl
theorem pb_eq0 : eqPf pb0 pb0 = true := by kernel_rfl
theorem pb_str : strcmp .eql (⟨#[49, 48, 46, 48, 46, 48, 46, 50, 47, 51, 49]⟩ : ByteArray) (⟨#[49, 48, 46, 48, 46, 48, 46, 50, 47, 51, 49]⟩ : ByteArray) = true := by kernel_rfl
theorem pb_a0 : eqAd ⟨false, 0, 167772160⟩ ⟨false, 0, 167772160⟩ = true := by kernel_rfl
theorem pb_a3 : eqAd ⟨false, 0, 167772163⟩ ⟨false, 0, 167772163⟩ = true := by kernel_rfl
end Go.Ma
