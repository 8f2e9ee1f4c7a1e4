/-
  Door seats: splits, joins; what prefixBegun comes to.
-/
import Derived.Test.YtaicmdnpjgijjaaGreatDoorPa
import Derived.Test.YtaicmdnpjgijjaaGreatDoorPn
namespace Go.Ma
open Go

noncomputable def splitF (p : Pf) : Option (Pf × Pf × Unit) :=
  req (i64ok (p.bits + 1)) <| (prefix_Last_t ⟨p.ad, p.bits + 1⟩).bind fun y1 => (addr_After_t y1.1).bind fun y2 => some (⟨p.ad, p.bits + 1⟩, ⟨y2.1, p.bits + 1⟩, ())
theorem req_twice {X : Type} (c : Bool) (a : Option X) : req c (req c a) = req c a := by cases c <;> rfl
theorem prefix_Split_eq (p : Pf) : prefix_Split_t p = splitF p := by
  unfold prefix_Split_t splitF
  simp only [dup_eq, both_self]
  cases h : i64ok (p.bits + 1)
  · rfl
  · simp only [req_true]
noncomputable def joinF (a b : Pf) : Option (Pf × Bool × Unit) :=
  br (bif decide (a.bits = 0) then true else bif !decide (a.bits = b.bits) then true else !(beqB a.ad.v6 b.ad.v6)) (some ((⟨⟨false, 0, 0⟩, 0⟩ : Pf), false, ()))
    (req (i64ok (a.bits - 1)) <| (prefix_Cut_t a.ad (a.bits - 1)).bind fun y => (splitF ⟨y.1, a.bits - 1⟩).bind fun z => br (eqPf z.1 a) (some (⟨y.1, a.bits - 1⟩, eqPf z.2.1 b, ())) (some (⟨y.1, a.bits - 1⟩, false, ())))
theorem prefix_Joined_eq (a b : Pf) : prefix_Joined_t a b = joinF a b := by
  unfold prefix_Joined_t joinF
  simp only [dup_eq, both_self, prefix_Split_eq, req_twice]
  cases decide (a.bits = 0) <;> cases decide (a.bits = b.bits) <;> cases beqB a.ad.v6 b.ad.v6 <;> rfl

def afterA (a : Ad) : Ad × Bool × Unit :=
  bif a.v6 && decide (aop .add .u64 a.lo 1 = 0) then (⟨a.v6, aop .add .u64 a.hi 1, aop .add .u64 a.lo 1⟩, !decide (aop .add .u64 a.hi 1 = 0), ())
  else (⟨a.v6, a.hi, aop .add .u64 a.lo 1⟩, bif a.v6 then true else decide (aop .add .u64 a.lo 1 < 4294967296), ())
theorem addr_After_all (a : Ad) : addr_After_t a = some (afterA a) := by
  unfold addr_After_t afterA
  simp only [dup_eq, both_self]
  cases h : a.v6 <;> cases h2 : decide (aop .add .u64 a.lo 1 = 0) <;> simp [br, h, both_self] <;> rfl
def pb0 : Pf := ⟨⟨false, 0, 167772160⟩, 30⟩
def pb1 : Pf := ⟨⟨false, 0, 167772160⟩, 31⟩
def pb2 : Pf := ⟨⟨false, 0, 167772162⟩, 31⟩
theorem pb_parse : prefix_Parse_t (⟨#[49, 48, 46, 48, 46, 48, 46, 48, 47, 51, 48]⟩ : ByteArray) = some (pb0, 0, ()) := by kernel_rfl
theorem pb_net : law_net_t 167772162 31 = some (pb2, ()) := by kernel_rfl
theorem pb_has : prefix_Has_t pb0 pb2 = some (true, 0, ()) := by kernel_rfl
theorem pb_ends : prefix_Ends_t pb0 = some (⟨false, 0, 167772160⟩, ⟨false, 0, 167772163⟩, 0, ()) := by kernel_rfl
theorem pb_split : splitF pb0 = some (pb1, pb2, ()) := by
  unfold splitF
  simp only [addr_After_all]
  kernel_rfl
theorem pb_halves : prefix_Halves_t pb0 = some (pb1, pb2, 0, ()) := by
  unfold prefix_Halves_t
  simp only [dup_eq, both_self, prefix_Split_eq, pb_split]
  kernel_rfl
theorem pb_join : prefix_Joined_t pb1 pb2 = some (pb0, true, ()) := by
  rw [prefix_Joined_eq]
  unfold joinF splitF
  simp only [addr_After_all]
  kernel_rfl
theorem pb_whole : prefix_Whole_t pb1 pb2 = some (pb0, 0, ()) := by
  unfold prefix_Whole_t
  rw [pb_join]
  kernel_rfl
theorem pb_print : prefix_Print_t pb2 = some (⟨#[49, 48, 46, 48, 46, 48, 46, 50, 47, 51, 49]⟩, 0, ()) := by kernel_rfl
theorem pb_net1 : law_net_t 1 31 = some (⟨⟨false, 0, 1⟩, 31⟩, ()) := by kernel_rfl
theorem pb_chk : prefix_Check_t ⟨⟨false, 0, 1⟩, 31⟩ = some (4, ()) := by kernel_rfl
theorem pb_v0 : law_v4_t 167772160 = some (⟨false, 0, 167772160⟩, ()) := by kernel_rfl
theorem pb_v3 : law_v4_t 167772163 = some (⟨false, 0, 167772163⟩, ()) := by kernel_rfl
theorem pb_eq0 : eqPf pb0 pb0 = true := by kernel_rfl
theorem pb_str : strcmp .eql (⟨#[49, 48, 46, 48, 46, 48, 46, 50, 47, 51, 49]⟩ : ByteArray) (⟨#[49, 48, 46, 48, 46, 48, 46, 50, 47, 51, 49]⟩ : ByteArray) = true := by kernel_rfl
theorem pb_a0 : eqAd ⟨false, 0, 167772160⟩ ⟨false, 0, 167772160⟩ = true := by kernel_rfl
theorem pb_a3 : eqAd ⟨false, 0, 167772163⟩ ⟨false, 0, 167772163⟩ = true := by kernel_rfl
theorem prefixBegun_eq : law_prefixBegun_t = some (true, ()) := by
  unfold law_prefixBegun_t
  rw [pb_parse, bind_s, pb_net, bind_s, pb_has, bind_s, pb_ends, bind_s, pb_halves, bind_s, pb_whole, bind_s, pb_print, bind_s]
  simp only [decide_true, br_true, bind_s, pb_net1, pb_chk, pb_v0, pb_v3, pb_eq0, pb_str, pb_a0, pb_a3]
end Go.Ma
