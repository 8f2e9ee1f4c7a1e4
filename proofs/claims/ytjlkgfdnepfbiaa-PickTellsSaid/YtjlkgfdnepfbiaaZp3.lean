/-
  Parts: Pl Pc Pf Po Ge Pm Ca Cf Ph Ce Pi Pj Pk Cb Cd Pw La Pv Lb Lc Ld Le Lg Lh Li Lo Lm Pd Pe Pg Sa Cc Sb Vc Vd Ve Vf Vg Sc Sd Se Sf Sg Sh Vh Vi Vj Wa Wb Wc Wd We Wf Ty.
-/
import Derived.Test.YtjlkgfdnepfbiaaRows
import Derived.Test.YtjlkgfdnepfbiaaZp2
set_option linter.unusedVariables false
set_option linter.unusedSimpArgs false
namespace Go.Ma
open Go
noncomputable def addr_Check_t (a0 : Ad) : Option (Int × Unit) :=
 (br (!a0.v6)
   (br (!decide (a0.hi = 0))
    (some true)
    (some (decide (a0.lo ≥ 4294967296))))
   (some false)).bind fun c1 =>
 br c1
  (some (3, ()))
  (some (0, ()))
noncomputable def prefix_Wide_t (a0 : Ad) : Option (Int × Unit) :=
 br a0.v6
  (some (128, ()))
  (some (32, ()))
noncomputable def prefix_mask_t (a0 : Ad) (a1 : Int) : Option (Ad × Unit) :=
 (prefix_Wide_t a0).bind fun y1 =>
 req (i64ok (y1.1 - a1)) <|
 br (decide (y1.1 - a1 < 64))
  (req (decide (0 ≤ y1.1 - a1)) <|
  br (decide (y1.1 - a1 > 64))
   (br (decide (y1.1 - a1 < 128))
    (req (i64ok ((y1.1 - a1) - 64)) <|
    req (decide (0 ≤ (y1.1 - a1) - 64)) <|
    some ((⟨a0.v6, aop .sub .u64 (aop .shl .u64 1 ((y1.1 - a1) - 64)) 1, aop .sub .u64 (aop .shl .u64 1 (y1.1 - a1)) 1⟩ : Ad), ()))
    (some ((⟨a0.v6, 18446744073709551615, aop .sub .u64 (aop .shl .u64 1 (y1.1 - a1)) 1⟩ : Ad), ())))
   (some ((⟨a0.v6, 0, aop .sub .u64 (aop .shl .u64 1 (y1.1 - a1)) 1⟩ : Ad), ())))
  (br (decide (y1.1 - a1 > 64))
   (br (decide (y1.1 - a1 < 128))
    (req (i64ok ((y1.1 - a1) - 64)) <|
    req (decide (0 ≤ (y1.1 - a1) - 64)) <|
    some ((⟨a0.v6, aop .sub .u64 (aop .shl .u64 1 ((y1.1 - a1) - 64)) 1, 18446744073709551615⟩ : Ad), ()))
    (some ((⟨a0.v6, 18446744073709551615, 18446744073709551615⟩ : Ad), ())))
   (some ((⟨a0.v6, 0, 18446744073709551615⟩ : Ad), ())))
noncomputable def prefix_Cut_t (a0 : Ad) (a1 : Int) : Option (Ad × Unit) :=
 (prefix_mask_t a0 a1).bind fun y1 =>
 some ((⟨a0.v6, aop .andNot .u64 a0.hi y1.1.hi, aop .andNot .u64 a0.lo y1.1.lo⟩ : Ad), ())
noncomputable def prefix_Check_t (a0 : Pf) : Option (Int × Unit) :=
 (addr_Check_t a0.ad).bind fun y1 =>
 br (!decide (y1.1 = 0))
  (some (y1.1, ()))
  ((br (decide (a0.bits < 0))
    (some true)
    ((prefix_Wide_t a0.ad).bind fun y2 =>
    some (decide (a0.bits > y2.1)))).bind fun c2 =>
  br c2
   (some (3, ()))
   ((prefix_Cut_t a0.ad a0.bits).bind fun y3 =>
   br (!(eqAd y3.1 a0.ad))
    (some (4, ()))
    (some (0, ()))))
noncomputable def span_Right_L4 (rec : (((Unit) × (Int × Unit) × (Int × Unit) × Unit) × (List Pf × Unit)) → Option ((((Int × Unit) × Unit) × (List Pf × Unit)) ⊕ ((Unit) × (List Pf × Unit)))) (x : (((Unit) × (Int × Unit) × (Int × Unit) × Unit) × (List Pf × Unit))) : Option ((((Int × Unit) × Unit) × (List Pf × Unit)) ⊕ ((Unit) × (List Pf × Unit))) :=
 let v0 := x.1.2.1.1
 let v1 := x.1.2.2.1.1
 let v2 := x.2.1
 br (decide (v1 < v0))
  (req (inRange v1 (lenL v2)) <|
  (geti v2 v1).bind fun p1 =>
  (prefix_Check_t p1).bind fun y2 =>
  br (!decide (y2.1 = 0))
   (some (Sum.inl (((y2.1, ()), ()), (v2, ()))))
   (req (i64ok (v1 + 1)) <|
   rec (((()), (v0, ()), (v1 + 1, ()), ()), (v2, ()))))
  (some (Sum.inr (((()), (v2, ())))))
noncomputable def span_Right_t (a0 : List Pf) : Option (Int × Unit) :=
 br (decide (lenL a0 > 12))
  (some (2, ()))
  ((loopN span_Right_L4 FUEL (((()), (lenL a0, ()), (0, ()), ()), (a0, ()))).bind fun y1 =>
  sumC y1 (fun y2 =>
   some (y2.1.1.1, ())) (fun y3 =>
   some (0, ())))
noncomputable def zq6 (a0 : List Pf) : Option ((List Pf) × Unit) :=
 nilB a0.length
  (some (([] : List Pf), ()))
  (req (room (lenL ([] : List Pf)) (lenL a0)) <|
  some (([] : List Pf) ++ a0, ()))
noncomputable def prefix_Holds_t (a0 : Pf) (a1 : Ad) : Option (Bool × Unit) :=
 (br (beqB a0.ad.v6 a1.v6)
   ((prefix_Cut_t a1 a0.bits).bind fun y1 =>
   some (eqAd y1.1 a0.ad))
   (some false)).bind fun c1 =>
 some (c1, ())
noncomputable def prefix_Over_t (a0 : Pf) (a1 : Pf) : Option (Bool × Unit) :=
 (br (decide (a0.bits ≤ a1.bits))
   ((prefix_Holds_t a0 a1.ad).bind fun y1 =>
   some y1.1)
   (some false)).bind fun c1 =>
 some (c1, ())
noncomputable def prefix_Last_t (a0 : Pf) : Option (Ad × Unit) :=
 (prefix_mask_t a0.ad a0.bits).bind fun y1 =>
 some ((⟨a0.ad.v6, aop .or .u64 a0.ad.hi y1.1.hi, aop .or .u64 a0.ad.lo y1.1.lo⟩ : Ad), ())
noncomputable def addr_After_t (a0 : Ad) : Option (Ad × Bool × Unit) :=
 (br a0.v6
   (some (decide (aop .add .u64 a0.lo 1 = 0)))
   (some false)).bind fun c1 =>
 br c1
  (some ((⟨a0.v6, aop .add .u64 a0.hi 1, aop .add .u64 a0.lo 1⟩ : Ad), !decide (aop .add .u64 a0.hi 1 = 0), ()))
  (br a0.v6
   (both
    (dup 1 <|
    some ((⟨a0.v6, a0.hi, aop .add .u64 a0.lo 1⟩ : Ad), true, ()))
    (some ((⟨a0.v6, a0.hi, aop .add .u64 a0.lo 1⟩ : Ad), true, ())))
   (some ((⟨a0.v6, a0.hi, aop .add .u64 a0.lo 1⟩ : Ad), decide (aop .add .u64 a0.lo 1 < 4294967296), ())))
noncomputable def prefix_Split_t (a0 : Pf) : Option (Pf × Pf × Unit) :=
 req (i64ok (a0.bits + 1)) <|
 (prefix_Last_t (⟨a0.ad, a0.bits + 1⟩ : Pf)).bind fun y1 =>
 (addr_After_t y1.1).bind fun y2 =>
 req (i64ok (a0.bits + 1)) <|
 some ((⟨a0.ad, a0.bits + 1⟩ : Pf), (⟨y2.1, a0.bits + 1⟩ : Pf), ())
noncomputable def prefix_Joined_t (a0 : Pf) (a1 : Pf) : Option (Pf × Bool × Unit) :=
 (br (decide (a0.bits = 0))
   (some true)
   (some (!decide (a0.bits = a1.bits)))).bind fun c1 =>
 (br c1
   (some true)
   (some (!(beqB a0.ad.v6 a1.ad.v6)))).bind fun c2 =>
 br c2
  (some ((⟨(⟨false, 0, 0⟩ : Ad), 0⟩ : Pf), false, ()))
  (req (i64ok (a0.bits - 1)) <|
  req (i64ok (a0.bits - 1)) <|
  dup 1 <|
  (prefix_Cut_t a0.ad (a0.bits - 1)).bind fun y3 =>
  (prefix_Split_t (⟨y3.1, a0.bits - 1⟩ : Pf)).bind fun y4 =>
  br (eqPf y4.1 a0)
   (some ((⟨y3.1, a0.bits - 1⟩ : Pf), eqPf y4.2.1 a1, ()))
   (dup 1 <|
   some ((⟨y3.1, a0.bits - 1⟩ : Pf), false, ())))
noncomputable def span_rest_step (span_rest_rec_t : Pf → Pf → Option ((List Pf) × Unit)) (a0 : Pf) (a1 : Pf) : Option ((List Pf) × Unit) :=
 (prefix_Over_t a1 a0).bind fun y1 =>
 br y1.1
  (some (([] : List Pf), ()))
  ((prefix_Over_t a0 a1).bind fun y2 =>
  br (!y2.1)
   (some (([a0] : List Pf), ()))
   ((prefix_Split_t a0).bind fun y3 =>
   (span_rest_rec_t y3.1 a1).bind fun y4 =>
   (span_rest_rec_t y3.2.1 a1).bind fun y5 =>
   req (room (lenL y4.1) (lenL y5.1)) <|
   some (y4.1 ++ y5.1, ())))
noncomputable def span_rest_fuel : Nat → Pf → Pf → Option ((List Pf) × Unit)
 | 0 => fun _ _ => none
 | n + 1 => span_rest_step (span_rest_fuel n)
noncomputable def span_rest_t : Pf → Pf → Option ((List Pf) × Unit) := span_rest_fuel RECN
noncomputable def R_CheckAddr_t (a0 : Ad) : Option (Int × Unit) :=
 (br (!a0.v6)
   (br (decide (a0.hi > 0))
    (some true)
    (some (decide (a0.lo > 4294967295))))
   (some false)).bind fun c1 =>
 br c1
  (some (3, ()))
  (some (0, ()))
noncomputable def R_wide_t (a0 : Ad) : Option (Int × Unit) :=
 br a0.v6
  (some (128, ()))
  (some (32, ()))
noncomputable def R_between_t (a0 : Int) (a1 : Int) (a2 : Int) : Option (Bool × Unit) :=
 (br (decide (a0 ≥ a1))
   (some (decide (a0 ≤ a2)))
   (some false)).bind fun c1 =>
 some (c1, ())
noncomputable def R_Bits_L3 (rec : (((Unit) × (Unit) × (Int × Unit) × Unit) × ((Ad × Unit) × List Int × Unit)) → Option (((Unit) × (Unit) × Unit) × ((Ad × Unit) × List Int × Unit))) (x : (((Unit) × (Unit) × (Int × Unit) × Unit) × ((Ad × Unit) × List Int × Unit))) : Option (((Unit) × (Unit) × Unit) × ((Ad × Unit) × List Int × Unit)) :=
 let v0 := x.1.2.2.1.1
 let v1 := x.2.1.1
 let v2 := x.2.2.1
 br (decide (v0 ≥ 0))
  (req (decide (0 ≤ v0)) <|
  req (room (lenL v2) (lenL ([convI .u8 (aop .add .u64 48 (aop .rem .u64 (aop .shr .u64 v1.hi v0) 2))] : List Int))) <|
  req (i64ok (v0 - 1)) <|
  rec (((()), (()), (v0 - 1, ()), ()), ((v1, ()), v2 ++ ([convI .u8 (aop .add .u64 48 (aop .rem .u64 (aop .shr .u64 v1.hi v0) 2))] : List Int), ())))
  (some (((()), (()), ()), ((v1, ()), v2, ())))
noncomputable def R_Bits_L7 (rec : (((Unit) × (Unit) × (Int × Unit) × Unit) × ((Ad × Unit) × List Int × Unit)) → Option (((Unit) × (Unit) × Unit) × ((Ad × Unit) × List Int × Unit))) (x : (((Unit) × (Unit) × (Int × Unit) × Unit) × ((Ad × Unit) × List Int × Unit))) : Option (((Unit) × (Unit) × Unit) × ((Ad × Unit) × List Int × Unit)) :=
 let v0 := x.1.2.2.1.1
 let v1 := x.2.1.1
 let v2 := x.2.2.1
 br (decide (v0 ≥ 0))
  (req (decide (0 ≤ v0)) <|
  req (room (lenL v2) (lenL ([convI .u8 (aop .add .u64 48 (aop .rem .u64 (aop .shr .u64 v1.lo v0) 2))] : List Int))) <|
  req (i64ok (v0 - 1)) <|
  rec (((()), (()), (v0 - 1, ()), ()), ((v1, ()), v2 ++ ([convI .u8 (aop .add .u64 48 (aop .rem .u64 (aop .shr .u64 v1.lo v0) 2))] : List Int), ())))
  (some (((()), (()), ()), ((v1, ()), v2, ())))
noncomputable def R_Bits_t (a0 : Ad) : Option (ByteArray × Unit) :=
 (loopN R_Bits_L3 FUEL (((()), (()), (63, ()), ()), ((a0, ()), ([] : List Int), ()))).bind fun y1 =>
 (loopN R_Bits_L7 FUEL (((()), (()), (63, ()), ()), ((y1.2.1.1, ()), y1.2.2.1, ()))).bind fun y2 =>
 br (!y2.2.1.1.v6)
  (req ((decide (96 ≤ lenL y2.2.2.1)) && (decide (lenL y2.2.2.1 ≤ lenL y2.2.2.1))) <|
  some (bytesOf (subL y2.2.2.1 96 (lenL y2.2.2.1)), ()))
  (some (bytesOf y2.2.2.1, ()))
noncomputable def R_CheckPrefix_L8 (rec : (((ByteArray × Unit) × (Int × Unit) × Unit) × (Unit)) → Option ((((Int × Unit) × Unit) × (Unit)) ⊕ ((Unit) × (Unit)))) (x : (((ByteArray × Unit) × (Int × Unit) × Unit) × (Unit))) : Option ((((Int × Unit) × Unit) × (Unit)) ⊕ ((Unit) × (Unit))) :=
 let v0 := x.1.1.1
 let v1 := x.1.2.1.1
 br (decide (v1 < lenS v0))
  (req (inRange v1 (lenS v0)) <|
  br (!decide (byteAt v0 v1 = 48))
   (some (Sum.inl (((4, ()), ()), (()))))
   (req (i64ok (v1 + 1)) <|
   rec (((v0, ()), (v1 + 1, ()), ()), (()))))
  (some (Sum.inr (((()), (())))))
noncomputable def R_CheckPrefix_t (a0 : Pf) : Option (Int × Unit) :=
 (R_CheckAddr_t a0.ad).bind fun y1 =>
 br (!decide (y1.1 = 0))
  (some (y1.1, ()))
  ((R_wide_t a0.ad).bind fun y2 =>
  (R_between_t a0.bits 0 y2.1).bind fun y3 =>
  br (!y3.1)
   (some (3, ()))
   ((R_Bits_t a0.ad).bind fun y4 =>
   (loopN R_CheckPrefix_L8 FUEL (((y4.1, ()), (a0.bits, ()), ()), (()))).bind fun y5 =>
   sumC y5 (fun y6 =>
    some (y6.1.1.1, ())) (fun y7 =>
    some (0, ()))))
noncomputable def R_CheckList_L4 (rec : (((Unit) × (Int × Unit) × Unit) × (List Pf × Unit)) → Option ((((Int × Unit) × Unit) × (List Pf × Unit)) ⊕ ((Unit) × (List Pf × Unit)))) (x : (((Unit) × (Int × Unit) × Unit) × (List Pf × Unit))) : Option ((((Int × Unit) × Unit) × (List Pf × Unit)) ⊕ ((Unit) × (List Pf × Unit))) :=
 let v0 := x.1.2.1.1
 let v1 := x.2.1
 br (decide (v0 < lenL v1))
  (req (inRange v0 (lenL v1)) <|
  (geti v1 v0).bind fun p1 =>
  (R_CheckPrefix_t p1).bind fun y2 =>
  br (!decide (y2.1 = 0))
   (some (Sum.inl (((y2.1, ()), ()), (v1, ()))))
   (req (i64ok (v0 + 1)) <|
   rec (((()), (v0 + 1, ()), ()), (v1, ()))))
  (some (Sum.inr (((()), (v1, ())))))
noncomputable def R_CheckList_t (a0 : List Pf) : Option (Int × Unit) :=
 br (decide (lenL a0 > 12))
  (some (2, ()))
  ((loopN R_CheckList_L4 FUEL (((()), (0, ()), ()), (a0, ()))).bind fun y1 =>
  sumC y1 (fun y2 =>
   some (y2.1.1.1, ())) (fun y3 =>
   some (0, ())))
noncomputable def R_HasAddr_t (a0 : Pf) (a1 : Ad) : Option (Bool × Unit) :=
 (br (beqB a0.ad.v6 a1.v6)
   ((R_Bits_t a0.ad).bind fun y1 =>
   req ((decide (0 ≤ a0.bits)) && (decide (a0.bits ≤ lenS y1.1))) <|
   (R_Bits_t a1).bind fun y2 =>
   req ((decide (0 ≤ a0.bits)) && (decide (a0.bits ≤ lenS y2.1))) <|
   some (strcmp .eql (subS y1.1 0 a0.bits) (subS y2.1 0 a0.bits)))
   (some false)).bind fun c1 =>
 some (c1, ())
noncomputable def R_HasPrefix_t (a0 : Pf) (a1 : Pf) : Option (Bool × Unit) :=
 (br (decide (a0.bits ≤ a1.bits))
   ((R_HasAddr_t a0 a1.ad).bind fun y1 =>
   some y1.1)
   (some false)).bind fun c1 =>
 some (c1, ())
noncomputable def R_DoMeet_t (a0 : Pf) (a1 : Pf) : Option (Bool × Unit) :=
 (R_HasPrefix_t a0 a1).bind fun y1 =>
 (br y1.1
   (some true)
   ((R_HasPrefix_t a1 a0).bind fun y2 =>
   some y2.1)).bind fun c2 =>
 some (c2, ())
noncomputable def R_AddrOf_L3 (rec : (((ByteArray × Unit) × (Unit) × (Unit) × (Int × Unit) × Unit) × ((Ad × Unit) × (Ad × Unit) × Unit)) → Option (((Unit) × (Unit) × Unit) × ((Ad × Unit) × (Ad × Unit) × Unit))) (x : (((ByteArray × Unit) × (Unit) × (Unit) × (Int × Unit) × Unit) × ((Ad × Unit) × (Ad × Unit) × Unit))) : Option (((Unit) × (Unit) × Unit) × ((Ad × Unit) × (Ad × Unit) × Unit)) :=
 let v0 := x.1.1.1
 let v1 := x.1.2.2.2.1.1
 let v2 := x.2.1.1
 let v3 := x.2.2.1.1
 br (decide (v1 < lenS v0))
  (req (inRange v1 (lenS v0)) <|
  req (i64ok ((lenS v0) - v1)) <|
  br (decide ((lenS v0) - v1 > 64))
   (req (i64ok (v1 + 1)) <|
   rec (((v0, ()), (()), (()), (v1 + 1, ()), ()), ((v2, ()), ((⟨v3.v6, aop .add .u64 (aop .mul .u64 2 v3.hi) (convI .u64 (aop .sub .u8 (byteAt v0 v1) 48)), v3.lo⟩ : Ad), ()), ())))
   (req (i64ok (v1 + 1)) <|
   rec (((v0, ()), (()), (()), (v1 + 1, ()), ()), ((v2, ()), ((⟨v3.v6, v3.hi, aop .add .u64 (aop .mul .u64 2 v3.lo) (convI .u64 (aop .sub .u8 (byteAt v0 v1) 48))⟩ : Ad), ()), ()))))
  (some (((()), (()), ()), ((v2, ()), (v3, ()), ())))
noncomputable def R_AddrOf_t (a0 : ByteArray) : Option (Ad × Unit) :=
 (loopN R_AddrOf_L3 FUEL (((a0, ()), (()), (()), (0, ()), ()), (((⟨false, 0, 0⟩ : Ad), ()), ((⟨decide (lenS a0 = 128), 0, 0⟩ : Ad), ()), ()))).bind fun y1 =>
 some (y1.2.2.1.1, ())
noncomputable def law_v4_t (a0 : Int) : Option (Ad × Unit) :=
 some ((⟨false, 0, a0⟩ : Ad), ())
noncomputable def law_net_t (a0 : Int) (a1 : Int) : Option (Pf × Unit) :=
 (law_v4_t a0).bind fun y1 =>
 some ((⟨y1.1, a1⟩ : Pf), ())
noncomputable def zq0 (rec : (((Unit) × (Unit) × (Int × Unit) × Unit) × (List Pf × List Pf × Unit)) → Option ((((Bool × Unit) × Unit) × (List Pf × List Pf × Unit)) ⊕ ((Unit) × (List Pf × List Pf × Unit)))) (x : (((Unit) × (Unit) × (Int × Unit) × Unit) × (List Pf × List Pf × Unit))) : Option ((((Bool × Unit) × Unit) × (List Pf × List Pf × Unit)) ⊕ ((Unit) × (List Pf × List Pf × Unit))) :=
 let v0 := x.1.2.2.1.1
 let v1 := x.2.1
 let v2 := x.2.2.1
 br (decide (v0 < lenL v1))
  (req (inRange v0 (lenL v1)) <|
  (geti v1 v0).bind fun p1 =>
  req (inRange v0 (lenL v2)) <|
  (geti v2 v0).bind fun p2 =>
  br (!(eqPf p1 p2))
   (some (Sum.inl (((false, ()), ()), (v1, v2, ()))))
   (req (i64ok (v0 + 1)) <|
   rec (((()), (()), (v0 + 1, ()), ()), (v1, v2, ()))))
  (some (Sum.inr (((()), (v1, v2, ())))))
noncomputable def R_SamePrefixes_t (a0 : List Pf) (a1 : List Pf) : Option (Bool × Unit) :=
 br (!decide (lenL a0 = lenL a1))
  (some (false, ()))
  ((loopN zq0 FUEL (((()), (()), (0, ()), ()), (a0, a1, ()))).bind fun y1 =>
  sumC y1 (fun y2 =>
   some (y2.1.1.1, ())) (fun y3 =>
   some (true, ())))
noncomputable def law_prefixesAre_t (a0 : List Pf) (a1 : Int) (a2 : Int) (a3 : List Pf) : Option (Bool × Unit) :=
 br (!decide (a2 = 0))
  ((br (decide (a1 = a2))
    ((R_SamePrefixes_t a0 ([] : List Pf)).bind fun y1 =>
    some y1.1)
    (some false)).bind fun c1 =>
  some (c1, ()))
  ((br (decide (a1 = a2))
    ((R_SamePrefixes_t a0 a3).bind fun y1 =>
    some y1.1)
    (some false)).bind fun c1 =>
  some (c1, ()))
noncomputable def pick_ready_t (a0 : Pf) (a1 : List Pf) : Option (Int × Unit) :=
 (prefix_Check_t a0).bind fun y1 =>
 br (!decide (y1.1 = 0))
  (some (y1.1, ()))
  ((span_Right_t a1).bind fun y2 =>
  some (y2.1, ()))
noncomputable def pick_First_1_t (a0 : Pf) (a1 : Int) : Option (Bool × Unit) :=
 some (decide (a0.bits ≤ a1), ())
end Go.Ma
namespace Go.Ma
open Go
theorem addr_Check_eq (a : Ad) : addr_Check_t a = some (chkA a, ()) := by
 unfold addr_Check_t chkA
 cases hv : a.v6 <;> by_cases h1 : a.hi = 0 <;> by_cases h2 : a.lo ≥ 4294967296 <;> simp [br_true, br_false, h1, h2]
theorem R_CheckAddr_eq {a : Ad} (h : a.In) : R_CheckAddr_t a = some (chkA a, ()) := by
 have h0 := h.1.1
 unfold R_CheckAddr_t chkA
 cases hv : a.v6 <;> by_cases h1 : a.hi > 0 <;> by_cases h2 : a.lo > 4294967295
 all_goals (simp [br_true, br_false, h1, h2]; try omega)
theorem wid_le (v : Bool) : wid v ≤ 128 := by cases v <;> decide
theorem prefix_Wide_eq (a : Ad) : prefix_Wide_t a = some (((wid a.v6 : Nat) : Int), ()) := by
 unfold prefix_Wide_t
 cases a.v6 <;> rfl
theorem R_wide_eq (a : Ad) : R_wide_t a = some (((wid a.v6 : Nat) : Int), ()) := by
 unfold R_wide_t
 cases a.v6 <;> rfl
theorem R_between_eq (x a b : Int) : R_between_t x a b = some (betw x a b, ()) := by
 unfold R_between_t
 rw [br_ss, bind_s, betw_bif]
theorem prefix_mask_eq (a : Ad) (bits : Int) (hb : 0 ≤ bits) (hb' : bits ≤ (wid a.v6 : Nat)) : prefix_mask_t a bits = some (maskA a.v6 bits, ()) := by
 unfold prefix_mask_t
 rw [prefix_Wide_eq, bind_s, maskA_parts]
 have hw := wid_le a.v6
 obtain ⟨r, hr⟩ : ∃ r : Nat, ((wid a.v6 : Nat) : Int) - bits = (r : Int) := ⟨(((wid a.v6 : Nat) : Int) - bits).toNat, by omega⟩
 have hrn : wid a.v6 - bits.toNat = r := by omega
 rw [hrn, hr]
 rw [req_of (i64ok_of (by omega) (by omega))]
 by_cases h1 : r < 64
 ·rw [decide_eq_true (show (r : Int) < 64 by omega), br_true, req_of (by simp), decide_eq_false (show ¬ (r : Int) > 64 by omega), br_false, shl_one h1]
  rw [show r - 64 = 0 by omega, Nat.min_eq_left (by omega)]
  rfl
 ·rw [decide_eq_false (show ¬ (r : Int) < 64 by omega), br_false]
  by_cases h2 : r > 64
  ·rw [decide_eq_true (show (r : Int) > 64 by omega), br_true]
   by_cases h3 : r < 128
   ·rw [decide_eq_true (show (r : Int) < 128 by omega), br_true, req_of (i64ok_of (by omega) (by omega)), req_of (by simp; omega)]
    rw [show (r : Int) - 64 = ((r - 64 : Nat) : Int) by omega, shl_one (by omega), Nat.min_eq_right (by omega)]
    rfl
   ·rw [decide_eq_false (show ¬ (r : Int) < 128 by omega), br_false]
    have : r = 128 := by omega
    subst this
    rfl
  ·have : r = 64 := by omega
   subst this
   rfl
theorem prefix_Cut_eq (a : Ad) (h : a.wf) (bits : Int) (hb : 0 ≤ bits) (hb' : bits ≤ (wid a.v6 : Nat)) : prefix_Cut_t a bits = some (cutA a bits, ()) := by
 unfold prefix_Cut_t
 rw [prefix_mask_eq a bits hb hb', bind_s, maskA_parts, cutA_parts a h]
 obtain ⟨h1, h2, h3, h4⟩ := h
 have hw := wid_le a.v6
 have e1 := andNot_mask a.hi.toNat (wid a.v6 - bits.toNat - 64) (by omega) (by omega)
 have e2 := andNot_mask a.lo.toNat (min (wid a.v6 - bits.toNat) 64) (by omega) (by omega)
 rw [Int.toNat_of_nonneg h1] at e1
 rw [Int.toNat_of_nonneg h3] at e2
 simp only
 rw [e1, e2]
theorem eqAd_eq (a b : Ad) : eqAd a b = decide (a = b) := by
 have e : (a = b) ↔ (a.v6 = b.v6 ∧ a.hi = b.hi ∧ a.lo = b.lo) := by
  cases a; cases b
  simp only [Ad.mk.injEq]
 rw [Bool.eq_iff_iff, decide_eq_true_iff, e]
 unfold eqAd
 simp [beqB, acmp]
theorem eqPf_eq (a b : Pf) : eqPf a b = decide (a = b) := by
 have e : (a = b) ↔ (a.ad.v6 = b.ad.v6 ∧ a.ad.hi = b.ad.hi ∧ a.ad.lo = b.ad.lo ∧ a.bits = b.bits) := by
  cases a with | mk a n => cases b with | mk b k =>
  cases a; cases b
  simp only [Pf.mk.injEq, Ad.mk.injEq, and_assoc]
 rw [Bool.eq_iff_iff, decide_eq_true_iff, e]
 unfold eqPf
 simp [beqB, acmp]
theorem prefix_Check_eq {p : Pf} (h : p.In) : prefix_Check_t p = some (chkP p, ()) := by
 unfold prefix_Check_t chkP
 rw [addr_Check_eq, bind_s]
 by_cases h1 : chkA p.ad = 0
 ·simp only [h1, decide_true, Bool.not_true, br_false, ne_eq, not_true, if_false]
  rw [prefix_Wide_eq, bind_s, br_ss, bind_s]
  by_cases h2 : p.bits < 0 ∨ p.bits > wid p.ad.v6
  ·rw [if_pos h2]
   have : (bif decide (p.bits < 0) then true else decide (p.bits > ((wid p.ad.v6 : Nat) : Int))) = true := by
    rcases h2 with h2 | h2 <;> simp [h2]
   rw [this, br_true]
  ·rw [if_neg h2]
   have : (bif decide (p.bits < 0) then true else decide (p.bits > ((wid p.ad.v6 : Nat) : Int))) = false := by
    simp only [not_or] at h2
    simp [h2.1]; omega
   rw [this, br_false, prefix_Cut_eq p.ad h.1.wf p.bits (by omega) (by omega), bind_s, eqAd_eq]
   by_cases h3 : cutA p.ad p.bits = p.ad <;> simp [h3, br_true, br_false]
 ·simp [h1, br_true]
end Go.Ma
namespace Go.Ma
open Go
theorem bitsTo_get (n t c i : Nat) : (bitsTo n t c)[i]? = if i < c then some (bitV n (t - i)) else none := by
 unfold bitsTo
 rw [List.getElem?_map]
 by_cases h : i < c
 ·rw [List.getElem?_range h, if_pos h]; rfl
 ·rw [if_neg h, List.getElem?_eq_none (by simpa using h)]; rfl
theorem num_testBit (hi lo i : Nat) (hlo : lo < 18446744073709551616) : (hi * 18446744073709551616 + lo).testBit i = if i < 64 then lo.testBit i else hi.testBit (i - 64) := by
 have := Nat.testBit_two_pow_mul_add (i := 64) hi (b := lo) (by simpa using hlo) i
 rw [Nat.mul_comm, show (18446744073709551616 : Nat) = 2 ^ 64 by decide]
 exact this
theorem bitV_congr {n i m j : Nat} (h : n.testBit i = m.testBit j) : bitV n i = bitV m j := by unfold bitV; rw [h]
theorem bitsA_eq {a : Ad} (h : a.wf) (hc : chkA a = 0) : bitsA a = bitsTo a.num (wid a.v6 - 1) (wid a.v6) := by
 obtain ⟨h1, h2, h3, h4⟩ := h
 have hlo : a.lo.toNat < 18446744073709551616 := by omega
 unfold bitsA Ad.num
 apply List.ext_getElem?
 intro i
 cases hv : a.v6
 ·unfold chkA at hc
  rw [hv] at hc
  have hz : a.hi = 0 ∧ ¬ (4294967296 : Int) ≤ a.lo := by
   split at hc
   ·cases hc
   ·rename_i hn
    simp only [true_and, not_or, Decidable.not_not] at hn
    exact hn
  simp only [Bool.false_eq_true, if_false, wid]
  rw [List.getElem?_drop, List.getElem?_append_right (by rw [bitsTo_length]; omega), bitsTo_length, bitsTo_get, bitsTo_get, hz.1]
  by_cases hi : i < 32
  ·rw [if_pos (by omega), if_pos hi]
   have e : 63 - (96 + i - 64) = 32 - 1 - i := by omega
   rw [e]
   simp
  ·rw [if_neg (by omega), if_neg hi]
 ·simp only [if_true, wid]
  rw [bitsTo_get]
  by_cases hi : i < 64
  ·rw [List.getElem?_append_left (by rw [bitsTo_length]; exact hi), bitsTo_get, if_pos hi, if_pos (by omega)]
   refine congrArg some (bitV_congr ?_)
   rw [num_testBit _ _ _ hlo, if_neg (by omega), show 128 - 1 - i - 64 = 63 - i by omega]
  ·rw [List.getElem?_append_right (by rw [bitsTo_length]; omega), bitsTo_length, bitsTo_get]
   by_cases hi2 : i < 128
   ·rw [if_pos (by omega), if_pos hi2]
    refine congrArg some (bitV_congr ?_)
    rw [num_testBit _ _ _ hlo, if_pos (by omega), show 63 - (i - 64) = 128 - 1 - i by omega]
   ·rw [if_neg (by omega), if_neg hi2]
theorem bitV_z (n i : Nat) : (bitV n i == 48) = !n.testBit i := by unfold bitV; cases n.testBit i <;> rfl
theorem mod_zero_iff (n k : Nat) : n % 2 ^ k = 0 ↔ ∀ i, i < k → n.testBit i = false := by
 constructor
 ·intro h i hi
  have := Nat.testBit_mod_two_pow n k i
  rw [h] at this
  simpa [hi] using this.symm
 ·intro h
  apply Nat.eq_of_testBit_eq
  intro i
  rw [Nat.testBit_mod_two_pow]
  by_cases hi : i < k <;> simp [hi, h]
theorem cutN_iff (n k : Nat) : cutN n k = n ↔ n % 2 ^ k = 0 := by
 unfold cutN
 have := Nat.div_add_mod n (2 ^ k)
 rw [Nat.mul_comm] at this
 omega
theorem tail_zero (n w b : Nat) (hb : b ≤ w) : ((bitsTo n (w - 1) w).drop b).all (· == 48) = decide (cutN n (w - b) = n) := by
 rw [Bool.eq_iff_iff, decide_eq_true_iff, cutN_iff, mod_zero_iff, List.all_eq_true]
 constructor
 ·intro h i hi
  have hm : bitV n i ∈ (bitsTo n (w - 1) w).drop b := by
   refine List.mem_iff_getElem?.2 ⟨w - 1 - i - b, ?_⟩
   rw [List.getElem?_drop, bitsTo_get, if_pos (by omega), show w - 1 - (b + (w - 1 - i - b)) = i by omega]
  have := h _ hm
  rw [bitV_z] at this
  simpa using this
 ·intro h x hx
  obtain ⟨j, hj⟩ := List.mem_iff_getElem?.1 hx
  rw [List.getElem?_drop, bitsTo_get] at hj
  split at hj
  ·injection hj with hj
   subst hj
   rw [bitV_z, h _ (by omega)]
   rfl
  ·cases hj
theorem cutA_iff {a : Ad} (h : a.wf) (bits : Int) : cutA a bits = a ↔ cutN a.num (wid a.v6 - bits.toNat) = a.num := by
 unfold cutA
 constructor
 ·intro he
  have := congrArg Ad.num he
  rwa [num_ofNum] at this
 ·intro he
  rw [he, ofNum_num a h]
def toI (l : List UInt8) : List Int := l.map fun b => (b.toNat : Int)
theorem toI_len (l : List UInt8) : (toI l).length = l.length := by simp [toI]
theorem bytesOf_toI (l : List UInt8) : bytesOf (toI l) = ofBytes l := by
 unfold bytesOf toI ofBytes
 congr 1
 rw [List.map_map]
 congr 1
 conv => rhs; rw [← List.map_id l]
 apply List.map_congr_left
 intro b _
 simp
theorem bit_conv (x i : Int) (hx : 0 ≤ x) (hx' : x < 18446744073709551616) (hi : 0 ≤ i) (hi' : i ≤ 63) :
  convI .u8 (aop .add .u64 48 (aop .rem .u64 (aop .shr .u64 x i) 2)) = ((bitV x.toNat i.toNat).toNat : Int) := bit_step x i hx hx' hi hi'
theorem bits_loop3 {a : Ad} (h : a.In) : loopN R_Bits_L3 FUEL (((), (), (63, ()), ()), ((a, ()), ([] : List Int), ())) = some (((), (), ()), ((a, ()), toI (bitsTo a.hi.toNat 63 64), ())) := by
 have := loop_up (step := R_Bits_L3) (fun j => (((), (), (63 - (j : Int), ()), ()), ((a, ()), toI (bitsTo a.hi.toNat 63 j), ()))) 64 (fun _ => some (((), (), ()), ((a, ()), toI (bitsTo a.hi.toNat 63 64), ()))) (fun rec j hj hr => ?_) (fun rec => ?_) FUEL 0 (by omega) (fuel_gt (by omega))
 ·exact this
 ·simp only [R_Bits_L3]
  rw [decide_eq_true (by omega), br_true, req_true, bit_conv _ _ h.1.1 h.1.2 (by omega) (by omega)]
  rw [req_of (room_of (lenL_nonneg _) (lenL_nonneg _) (by simp only [lenL, toI_len, bitsTo_length, List.length_cons, List.length_nil]; omega)), req_of (i64ok_of (by omega) (by omega))]
  rw [← hr]
  have e1 : (63 - (j : Int)).toNat = 63 - j := by omega
  have e2 : 63 - (j : Int) - 1 = 63 - ((j + 1 : Nat) : Int) := by omega
  rw [e1, e2, bitsTo_succ]
  simp [toI]
 ·simp only [R_Bits_L3]
  rw [decide_eq_false (by omega), br_false]
theorem bits_loop7 {a : Ad} (h : a.In) : loopN R_Bits_L7 FUEL (((), (), (63, ()), ()), ((a, ()), toI (bitsTo a.hi.toNat 63 64), ())) = some (((), (), ()), ((a, ()), toI (bitsTo a.hi.toNat 63 64) ++ toI (bitsTo a.lo.toNat 63 64), ())) := by
 have := loop_up (step := R_Bits_L7) (fun j => (((), (), (63 - (j : Int), ()), ()), ((a, ()), toI (bitsTo a.hi.toNat 63 64) ++ toI (bitsTo a.lo.toNat 63 j), ()))) 64 (fun _ => some (((), (), ()), ((a, ()), toI (bitsTo a.hi.toNat 63 64) ++ toI (bitsTo a.lo.toNat 63 64), ()))) (fun rec j hj hr => ?_) (fun rec => ?_) FUEL 0 (by omega) (fuel_gt (by omega))
 ·rw [← this]
  simp [toI, bitsTo]
 ·simp only [R_Bits_L7]
  rw [decide_eq_true (by omega), br_true, req_true, bit_conv _ _ h.2.1 h.2.2 (by omega) (by omega)]
  rw [req_of (room_of (lenL_nonneg _) (lenL_nonneg _) (by simp only [lenL, List.length_append, toI_len, bitsTo_length, List.length_cons, List.length_nil]; omega)), req_of (i64ok_of (by omega) (by omega))]
  rw [← hr]
  have e1 : (63 - (j : Int)).toNat = 63 - j := by omega
  have e2 : 63 - (j : Int) - 1 = 63 - ((j + 1 : Nat) : Int) := by omega
  rw [e1, e2, bitsTo_succ a.lo.toNat 63 j]
  simp [toI]
 ·simp only [R_Bits_L7]
  rw [decide_eq_false (by omega), br_false]
theorem R_Bits_eq {a : Ad} (h : a.In) : R_Bits_t a = some (ofBytes (bitsA a), ()) := by
 unfold R_Bits_t bitsA
 rw [bits_loop3 h, bind_s, bits_loop7 h, bind_s]
 have e : toI (bitsTo a.hi.toNat 63 64) ++ toI (bitsTo a.lo.toNat 63 64) = toI (bitsTo a.hi.toNat 63 64 ++ bitsTo a.lo.toNat 63 64) := by simp [toI]
 simp only [e]
 cases a.v6
 ·have hl : lenL (toI (bitsTo a.hi.toNat 63 64 ++ bitsTo a.lo.toNat 63 64)) = 128 := by simp only [lenL, toI_len, List.length_append, bitsTo_length]; rfl
  rw [hl, Bool.not_false, br_true, req_of (by decide)]
  have : subL (toI (bitsTo a.hi.toNat 63 64 ++ bitsTo a.lo.toNat 63 64)) 96 128 = toI ((bitsTo a.hi.toNat 63 64 ++ bitsTo a.lo.toNat 63 64).drop 96) := by
   unfold subL
   rw [show (128 : Int).toNat = 128 from rfl, show (96 : Int).toNat = 96 from rfl, List.take_of_length_le (by rw [toI_len]; simp [bitsTo_length])]
   simp [toI, List.map_drop]
  rw [this, bytesOf_toI]
  rfl
 ·rw [Bool.not_true, br_false, bytesOf_toI]
  rfl
theorem bitsA_len (a : Ad) : (bitsA a).length = wid a.v6 := by
 unfold bitsA wid
 cases a.v6 <;> simp [bitsTo_length]
theorem ofBytes_list (l : List UInt8) : (ofBytes l).data.toList = l := by simp [ofBytes]
theorem ofBytes_size (l : List UInt8) : (ofBytes l).size = l.length := by simp [ofBytes, ByteArray.size]
theorem toNat48 (b : UInt8) : ((b.toNat : Int) = 48) ↔ b = 48 := by
 constructor
 ·intro h
  apply UInt8.toNat_inj.1
  have : b.toNat = 48 := by omega
  rw [this]
  rfl
 ·rintro rfl; rfl
theorem chkp_loop (s : ByteArray) (k : Nat) (hs : s.size < 9223372036854775808) (hk : k ≤ s.size) : loopN R_CheckPrefix_L8 FUEL (((s, ()), ((k : Int), ()), ()), ()) = some (if (s.data.toList.drop k).all (· == 48) then Sum.inr ((), ()) else Sum.inl (((4, ()), ()), ())) := by
 refine loop_up (step := R_CheckPrefix_L8) (fun i => (((s, ()), ((i : Int), ()), ()), ())) s.size (fun i => some (if (s.data.toList.drop i).all (· == 48) then Sum.inr ((), ()) else Sum.inl (((4, ()), ()), ()))) (fun rec i hi hr => ?_) (fun rec => ?_) FUEL k hk (fuel_gt (by omega))
 ·obtain ⟨b, hb⟩ : ∃ b, s.data.toList[i]? = some b := ⟨_, List.getElem?_eq_getElem (by rw [data_len]; exact hi)⟩
  simp only [R_CheckPrefix_L8]
  rw [decide_eq_true (show (i : Int) < lenS s by unfold lenS; omega), br_true, req_of (inRange_of (by omega) (by unfold lenS; omega)), byteAt_eq hb, drop_all _ hb]
  by_cases h48 : b = 48
  ·rw [decide_eq_true ((toNat48 b).2 h48), Bool.not_true, br_false, show ((i : Int) + 1) = ((i + 1 : Nat) : Int) by omega, req_of (i64ok_of (by omega) (by omega)), hr]
   simp [h48]
  ·rw [decide_eq_false (fun h => h48 ((toNat48 b).1 h)), Bool.not_false, br_true]
   simp [h48]
 ·simp only [R_CheckPrefix_L8]
  rw [decide_eq_false (show ¬ (s.size : Int) < lenS s by unfold lenS; omega), br_false, List.drop_of_length_le (by rw [data_len]; exact Nat.le_refl _)]
  rfl
theorem R_CheckPrefix_eq {p : Pf} (h : p.In) : R_CheckPrefix_t p = some (chkP p, ()) := by
 unfold R_CheckPrefix_t chkP
 rw [R_CheckAddr_eq h.1, bind_s]
 by_cases h1 : chkA p.ad = 0
 rotate_left
 ·simp [h1, br_true]
 simp only [h1, decide_true, Bool.not_true, br_false, ne_eq, not_true, if_false]
 rw [R_wide_eq, bind_s, R_between_eq, bind_s]
 by_cases h2 : p.bits < 0 ∨ p.bits > wid p.ad.v6
 ·rw [if_pos h2]
  have : betw p.bits 0 ((wid p.ad.v6 : Nat) : Int) = false := by
   rw [Bool.eq_false_iff]
   intro hb
   have := betw_iff.1 hb
   omega
  rw [this]
  rfl
 rw [if_neg h2]
 simp only [not_or] at h2
 have : betw p.bits 0 ((wid p.ad.v6 : Nat) : Int) = true := betw_iff.2 ⟨by omega, by omega⟩
 rw [this]
 simp only [Bool.not_true, br_false]
 obtain ⟨k, hk⟩ : ∃ k : Nat, p.bits = (k : Int) := ⟨p.bits.toNat, by omega⟩
 have hw := wid_le p.ad.v6
 rw [R_Bits_eq h.1, bind_s, hk, chkp_loop _ _ (by rw [ofBytes_size, bitsA_len]; omega) (by rw [ofBytes_size, bitsA_len]; omega), bind_s, ofBytes_list, bitsA_eq h.1.wf h1, tail_zero _ _ _ (by omega)]
 have e := cutA_iff h.1.wf (k : Int)
 rw [Int.toNat_natCast] at e
 by_cases h3 : cutN p.ad.num (wid p.ad.v6 - k) = p.ad.num
 ·have h4 := e.2 h3
  simp only [h3, h4, decide_true, if_true, not_true, if_false]
  rfl
 ·have h4 : ¬ cutA p.ad (k : Int) = p.ad := fun h => h3 (e.1 h)
  simp only [h3, h4, decide_false, Bool.false_eq_true, not_false_eq_true, if_true, if_false]
  rfl
end Go.Ma
namespace Go.Ma
open Go
theorem chkP_ad {p : Pf} (h : chkP p = 0) : chkA p.ad = 0 := by
 unfold chkP at h
 split at h
 ·rename_i h1; exact absurd h h1
 ·rename_i h1; exact Decidable.not_not.1 h1
theorem chkP_cut {p : Pf} (h : chkP p = 0) : cutA p.ad p.bits = p.ad := by
 unfold chkP at h
 split at h
 ·rename_i h1; exact absurd h h1
 split at h
 ·cases h
 split at h
 ·cases h
 ·rename_i h1; exact Decidable.not_not.1 h1
theorem take_bits (n m w b : Nat) (hb : b ≤ w) : (bitsTo n (w - 1) w).take b = (bitsTo m (w - 1) w).take b ↔ ∀ i, w - b ≤ i → i < w → n.testBit i = m.testBit i := by
 constructor
 ·intro h i h1 h2
  have := congrArg (fun l : List UInt8 => l[w - 1 - i]?) h
  have h3 : w - 1 - i < b := by omega
  have h4 : w - 1 - i < w := by omega
  simp only [List.getElem?_take, bitsTo_get, h3, h4, if_true, show w - 1 - (w - 1 - i) = i by omega] at this
  injection this with this
  unfold bitV at this
  cases hn : n.testBit i <;> cases hm : m.testBit i <;> rw [hn, hm] at this <;> first | rfl | (exfalso; revert this; decide)
 ·intro h
  apply List.ext_getElem?
  intro j
  simp only [List.getElem?_take, bitsTo_get]
  by_cases hj : j < b
  ·rw [if_pos hj, if_pos (by omega), if_pos hj, if_pos (by omega), bitV_congr (h (w - 1 - j) (by omega) (by omega))]
  ·rw [if_neg hj, if_neg hj]
theorem cutN_bits (n m w b : Nat) (hb : b ≤ w) (hn : n < 2 ^ w) (hm : m < 2 ^ w) : cutN n (w - b) = cutN m (w - b) ↔ ∀ i, w - b ≤ i → i < w → n.testBit i = m.testBit i := by
 unfold cutN
 have hp := Nat.two_pow_pos (w - b)
 constructor
 ·intro h i h1 h2
  have := congrArg (fun x => x.testBit i) h
  simp only [Nat.testBit_mul_two_pow, Nat.testBit_div_two_pow] at this
  simpa [h1, Nat.sub_add_cancel h1] using this
 ·intro h
  congr 1
  apply Nat.eq_of_testBit_eq
  intro i
  rw [Nat.testBit_div_two_pow, Nat.testBit_div_two_pow]
  by_cases hi : i + (w - b) < w
  ·exact h _ (by omega) hi
  ·have a1 : n.testBit (i + (w - b)) = false := Nat.testBit_lt_two_pow (Nat.lt_of_lt_of_le hn (Nat.pow_le_pow_right (by omega) (by omega)))
   have a2 : m.testBit (i + (w - b)) = false := Nat.testBit_lt_two_pow (Nat.lt_of_lt_of_le hm (Nat.pow_le_pow_right (by omega) (by omega)))
   rw [a1, a2]
theorem prefix_Holds_eq {p : Pf} {a : Ad} (h1 : 0 ≤ p.bits) (h2 : p.bits ≤ (wid p.ad.v6 : Nat)) (ha : a.In) : prefix_Holds_t p a = some (holds p a, ()) := by
 unfold prefix_Holds_t holds
 by_cases hv : p.ad.v6 = a.v6
 ·rw [show beqB p.ad.v6 a.v6 = true by simp [beqB, hv], br_true, prefix_Cut_eq a ha.wf p.bits h1 (by rw [← hv]; exact h2), bind_s, bind_s, eqAd_eq]
  simp [hv]
 ·rw [show beqB p.ad.v6 a.v6 = false by simp [beqB, hv], br_false, bind_s]
  simp [hv]
theorem R_HasAddr_eq {p : Pf} {a : Ad} (hp : p.In) (cp : chkP p = 0) (ha : a.In) (ca : chkA a = 0) : R_HasAddr_t p a = some (holds p a, ()) := by
 obtain ⟨h1, h2⟩ := chkP_bits cp
 unfold R_HasAddr_t holds
 by_cases hv : p.ad.v6 = a.v6
 rotate_left
 ·rw [show beqB p.ad.v6 a.v6 = false by simp [beqB, hv], br_false, bind_s]
  simp [hv]
 have l1 : lenS (ofBytes (bitsA p.ad)) = (wid p.ad.v6 : Nat) := by unfold lenS; rw [ofBytes_size, bitsA_len]
 have l2 : lenS (ofBytes (bitsA a)) = (wid p.ad.v6 : Nat) := by unfold lenS; rw [ofBytes_size, bitsA_len, hv]
 rw [show beqB p.ad.v6 a.v6 = true by simp [beqB, hv], br_true, R_Bits_eq hp.1, bind_s, R_Bits_eq ha, bind_s]
 simp only [l1, l2, h1, h2, decide_true, Bool.and_self, req_true, bind_s, strcmp_eql]
 have hs : ∀ l : List UInt8, subS (ofBytes l) 0 p.bits = ofBytes (l.take p.bits.toNat) := fun l => by
  apply ByteArray.ext
  simp [subS, ofBytes, ByteArray.data_extract]
 have hi : ∀ l r : List UInt8, ofBytes l = ofBytes r ↔ l = r := fun l r => by simp [ofBytes]
 have n1 := right_num p.ad ⟨hp.1.wf, chkP_ad cp⟩
 have n2 := right_num a ⟨ha.wf, ca⟩
 rw [← hv] at n2
 have hb : p.bits.toNat ≤ wid p.ad.v6 := by omega
 have key : (subS (ofBytes (bitsA p.ad)) 0 p.bits = subS (ofBytes (bitsA a)) 0 p.bits) ↔ cutA a p.bits = p.ad := by
  rw [hs, hs, hi, bitsA_eq hp.1.wf (chkP_ad cp), bitsA_eq ha.wf ca, ← hv, take_bits _ _ _ _ hb, ← cutN_bits _ _ _ _ hb n1 n2]
  have hc := (cutA_iff hp.1.wf p.bits).1 (chkP_cut cp)
  rw [hc]
  unfold cutA
  rw [← hv]
  constructor
  ·intro h
   rw [← h, ofNum_num _ hp.1.wf]
  ·intro h
   have := congrArg Ad.num h
   rw [num_ofNum] at this
   exact this.symm
 simp only [hv, beq_self_eq_true, Bool.true_and]
 congr 2
 exact decide_eq_decide.2 key
end Go.Ma
namespace Go.Ma
open Go
noncomputable def R_HalvesOf_t (p : Pf) : Option (Pf × Pf × Unit) :=
 (R_Bits_t p.ad).bind fun y => req (Nat.ble y.1.size 1024) <| req (decide (0 ≤ p.bits) && decide (p.bits < 1000)) <| req (Nat.blt p.bits.toNat y.1.size) <|
 (R_AddrOf_t ⟨(y.1.data.toList.set p.bits.toNat 49).toArray⟩).bind fun z => some (⟨p.ad, p.bits + 1⟩, ⟨z.1, p.bits + 1⟩, ())
end Go.Ma
namespace Go.Ma
open Go
noncomputable def zq7 (rec : (((Unit) × (Unit) × (Int × Unit) × Unit) × (List Pf × (Unit) × List Pf × List Pf × (Pf × Unit) × (Pf × Unit) × Unit)) → Option (((Unit) × (Unit) × (Int × Unit) × Unit) × (List Pf × (Unit) × List Pf × List Pf × (Pf × Unit) × (Pf × Unit) × Unit))) (x : (((Unit) × (Unit) × (Int × Unit) × Unit) × (List Pf × (Unit) × List Pf × List Pf × (Pf × Unit) × (Pf × Unit) × Unit))) : Option (((Unit) × (Unit) × (Int × Unit) × Unit) × (List Pf × (Unit) × List Pf × List Pf × (Pf × Unit) × (Pf × Unit) × Unit)) :=
 let v0 := x.1.2.2.1.1
 let v1 := x.2.1
 let v2 := x.2.2.2.1
 let v3 := x.2.2.2.2.1
 let v4 := x.2.2.2.2.2.1.1
 let v5 := x.2.2.2.2.2.2.1.1
 br (decide (v0 > 0))
  (req (i64ok (v0 - 1)) <|
  req (inRange (v0 - 1) (lenL v3)) <|
  (geti v3 (v0 - 1)).bind fun p1 =>
  dup 1 <|
  (prefix_Joined_t p1 v5).bind fun y2 =>
  br (!y2.2.1)
   (some (((()), (()), (v0, ()), ()), (v1, (()), v2, v3, (v4, ()), (v5, ()), ())))
   (req (i64ok (v0 - 1)) <|
   rec (((()), (()), (v0 - 1, ()), ()), (v1, (()), v2, v3, (v4, ()), (y2.1, ()), ()))))
  (some (((()), (()), (v0, ()), ()), (v1, (()), v2, v3, (v4, ()), (v5, ()), ())))
noncomputable def span_Short_L5 (rec : (((Unit) × (Unit) × (Int × Unit) × (Int × Unit) × Unit) × (List Pf × (Unit) × List Pf × List Pf × Unit)) → Option (((Unit) × Unit) × (List Pf × (Unit) × List Pf × Unit))) (x : (((Unit) × (Unit) × (Int × Unit) × (Int × Unit) × Unit) × (List Pf × (Unit) × List Pf × List Pf × Unit))) : Option (((Unit) × Unit) × (List Pf × (Unit) × List Pf × Unit)) :=
 let v0 := x.1.2.2.1.1
 let v1 := x.1.2.2.2.1.1
 let v2 := x.2.1
 let v3 := x.2.2.2.1
 let v4 := x.2.2.2.2.1
 br (decide (v1 < v0))
  (req (inRange v1 (lenL v3)) <|
  (geti v3 v1).bind fun p1 =>
  (br (decide (lenL v4 > 0))
    (req (i64ok ((lenL v4) - 1)) <|
    req (inRange ((lenL v4) - 1) (lenL v4)) <|
    (geti v4 ((lenL v4) - 1)).bind fun p2 =>
    (prefix_Over_t p2 p1).bind fun y3 =>
    some y3.1)
    (some false)).bind fun c2 =>
  br c2
   (req (i64ok (v1 + 1)) <|
   rec (((()), (()), (v0, ()), (v1 + 1, ()), ()), (v2, (()), v3, v4, ())))
   ((loopN zq7 FUEL (((()), (()), (lenL v4, ()), ()), (v2, (()), v3, v4, (p1, ()), (p1, ()), ()))).bind fun y3 =>
   dup 1 <|
   req ((decide (0 ≤ y3.1.2.2.1.1)) && (decide (y3.1.2.2.1.1 ≤ lenL y3.2.2.2.2.1))) <|
   req (room (lenL (subL y3.2.2.2.2.1 0 y3.1.2.2.1.1)) (lenL ([y3.2.2.2.2.2.2.1.1] : List Pf))) <|
   req (i64ok (v1 + 1)) <|
   rec (((()), (()), (v0, ()), (v1 + 1, ()), ()), (y3.2.1, (()), y3.2.2.2.1, (subL y3.2.2.2.2.1 0 y3.1.2.2.1.1) ++ ([y3.2.2.2.2.2.2.1.1] : List Pf), ()))))
  (some (((()), ()), (v2, (()), v4, ())))
noncomputable def span_Short_t (a0 : List Pf) : Option ((List Pf) × Unit) :=
 (zq6 a0).bind fun y1 =>
 req (sortOkP y1.1) <|
 (loopN span_Short_L5 FUEL (((()), (()), (lenL (sortP y1.1), ()), (0, ()), ()), (a0, (()), sortP y1.1, ([] : List Pf), ()))).bind fun y2 =>
 some (y2.2.2.2.1, ())
noncomputable def span_Less_L3 (rec : (((Unit) × (Unit) × (Unit) × (Int × Unit) × (Int × Unit) × Unit) × (List Pf × (Pf × Unit) × List Pf × Unit)) → Option (((Unit) × Unit) × (List Pf × List Pf × Unit))) (x : (((Unit) × (Unit) × (Unit) × (Int × Unit) × (Int × Unit) × Unit) × (List Pf × (Pf × Unit) × List Pf × Unit))) : Option (((Unit) × Unit) × (List Pf × List Pf × Unit)) :=
 let v0 := x.1.2.2.2.1.1
 let v1 := x.1.2.2.2.2.1.1
 let v2 := x.2.1
 let v3 := x.2.2.1.1
 let v4 := x.2.2.2.1
 br (decide (v1 < v0))
  (req (inRange v1 (lenL v2)) <|
  (geti v2 v1).bind fun p1 =>
  (span_rest_t p1 v3).bind fun y2 =>
  req (room (lenL v4) (lenL y2.1)) <|
  req (i64ok (v1 + 1)) <|
  rec (((()), (()), (()), (v0, ()), (v1 + 1, ()), ()), (v2, (v3, ()), v4 ++ y2.1, ())))
  (some (((()), ()), (v2, v4, ())))
noncomputable def span_Less_t (a0 : List Pf) (a1 : Pf) : Option ((List Pf) × Unit) :=
 (loopN span_Less_L3 FUEL (((()), (()), (()), (lenL a0, ()), (0, ()), ()), (a0, (a1, ()), ([] : List Pf), ()))).bind fun y1 =>
 (span_Short_t y1.2.2.1).bind fun y2 =>
 some (y2.1, ())
noncomputable def R_normWithin_L3 (rec : (((Unit) × (Unit) × (Unit) × (Bool × Unit) × (Bool × Unit) × (Bool × Unit) × (Int × Unit) × Unit) × (List Pf × List Pf × (Pf × Unit) × Unit)) → Option (((Unit) × (Unit) × (Unit) × (Bool × Unit) × (Bool × Unit) × (Bool × Unit) × Unit) × (List Pf × List Pf × (Pf × Unit) × Unit))) (x : (((Unit) × (Unit) × (Unit) × (Bool × Unit) × (Bool × Unit) × (Bool × Unit) × (Int × Unit) × Unit) × (List Pf × List Pf × (Pf × Unit) × Unit))) : Option (((Unit) × (Unit) × (Unit) × (Bool × Unit) × (Bool × Unit) × (Bool × Unit) × Unit) × (List Pf × List Pf × (Pf × Unit) × Unit)) :=
 let v0 := x.1.2.2.2.1.1
 let v1 := x.1.2.2.2.2.1.1
 let v2 := x.1.2.2.2.2.2.1.1
 let v3 := x.1.2.2.2.2.2.2.1.1
 let v4 := x.2.1
 let v5 := x.2.2.1
 let v6 := x.2.2.2.1.1
 br (decide (v3 < lenL v4))
  ((br v0
    (some true)
    (req (inRange v3 (lenL v4)) <|
    (geti v4 v3).bind fun p1 =>
    (R_HasPrefix_t p1 v6).bind fun y2 =>
    some y2.1)).bind fun c1 =>
  (br v1
    (req (inRange v3 (lenL v4)) <|
    (geti v4 v3).bind fun p2 =>
    (R_DoMeet_t p2 v6).bind fun y3 =>
    some (!y3.1))
    (some false)).bind fun c2 =>
  req (i64ok (v3 + 1)) <|
  rec (((()), (()), (()), (c1, ()), (c2, ()), (v2, ()), (v3 + 1, ()), ()), (v4, v5, (v6, ()), ())))
  (some (((()), (()), (()), (v0, ()), (v1, ()), (v2, ()), ()), (v4, v5, (v6, ()), ())))
noncomputable def R_normWithin_L8 (rec : (((Unit) × (Unit) × (Unit) × (Bool × Unit) × (Bool × Unit) × (Bool × Unit) × (Int × Unit) × Unit) × (List Pf × List Pf × (Pf × Unit) × Unit)) → Option ((((Unit) × Unit) × (List Pf × List Pf × List Pf × Unit)) ⊕ (((Unit) × (Unit) × (Unit) × (Bool × Unit) × (Bool × Unit) × (Bool × Unit) × Unit) × (List Pf × List Pf × (Pf × Unit) × Unit)))) (x : (((Unit) × (Unit) × (Unit) × (Bool × Unit) × (Bool × Unit) × (Bool × Unit) × (Int × Unit) × Unit) × (List Pf × List Pf × (Pf × Unit) × Unit))) : Option ((((Unit) × Unit) × (List Pf × List Pf × List Pf × Unit)) ⊕ (((Unit) × (Unit) × (Unit) × (Bool × Unit) × (Bool × Unit) × (Bool × Unit) × Unit) × (List Pf × List Pf × (Pf × Unit) × Unit))) :=
 let v0 := x.1.2.2.2.1.1
 let v1 := x.1.2.2.2.2.1.1
 let v2 := x.1.2.2.2.2.2.1.1
 let v3 := x.1.2.2.2.2.2.2.1.1
 let v4 := x.2.1
 let v5 := x.2.2.1
 let v6 := x.2.2.2.1.1
 br (decide (v3 < lenL v5))
  (req (inRange v3 (lenL v5)) <|
  (geti v5 v3).bind fun p1 =>
  (R_HasPrefix_t p1 v6).bind fun y2 =>
  br y2.1
   (some (Sum.inl (((()), ()), (v4, v5, ([] : List Pf), ()))))
   ((br v2
     (some true)
     (req (inRange v3 (lenL v5)) <|
     (geti v5 v3).bind fun p3 =>
     (R_DoMeet_t p3 v6).bind fun y4 =>
     some y4.1)).bind fun c3 =>
   req (i64ok (v3 + 1)) <|
   rec (((()), (()), (()), (v0, ()), (v1, ()), (c3, ()), (v3 + 1, ()), ()), (v4, v5, (v6, ()), ()))))
  (some (Sum.inr ((((()), (()), (()), (v0, ()), (v1, ()), (v2, ()), ()), (v4, v5, (v6, ()), ())))))
noncomputable def R_normWithin_step (R_normWithin_rec_t : Pf → List Pf → List Pf → Option ((List Pf) × Unit)) (a0 : Pf) (a1 : List Pf) (a2 : List Pf) : Option ((List Pf) × Unit) :=
 (loopN R_normWithin_L3 FUEL (((()), (()), (()), (false, ()), (true, ()), (false, ()), (0, ()), ()), (a1, a2, (a0, ()), ()))).bind fun y1 =>
 (loopN R_normWithin_L8 FUEL (((()), (()), (()), (y1.1.2.2.2.1.1, ()), (y1.1.2.2.2.2.1.1, ()), (y1.1.2.2.2.2.2.1.1, ()), (0, ()), ()), (y1.2.1, y1.2.2.1, (y1.2.2.2.1.1, ()), ()))).bind fun y2 =>
 sumC y2 (fun y3 =>
  some (y3.2.2.2.1, ())) (fun y4 =>
  br y4.1.2.2.2.2.1.1
   (some (([] : List Pf), ()))
   ((br y4.1.2.2.2.1.1
     (some (!y4.1.2.2.2.2.2.1.1))
     (some false)).bind fun c5 =>
   br c5
    (some (([y4.2.2.2.1.1] : List Pf), ()))
    ((R_HalvesOf_t y4.2.2.2.1.1).bind fun y6 =>
    (R_normWithin_rec_t y6.1 y4.2.1 y4.2.2.1).bind fun y7 =>
    (R_normWithin_rec_t y6.2.1 y4.2.1 y4.2.2.1).bind fun y8 =>
    (br (decide (lenL y7.1 = 1))
      (some (decide (lenL y8.1 = 1)))
      (some false)).bind fun c9 =>
    (br c9
      (req (inRange 0 (lenL y7.1)) <|
      (geti y7.1 0).bind fun p10 =>
      some (eqPf p10 y6.1))
      (some false)).bind fun c10 =>
    (br c10
      (req (inRange 0 (lenL y8.1)) <|
      (geti y8.1 0).bind fun p11 =>
      some (eqPf p11 y6.2.1))
      (some false)).bind fun c11 =>
    br c11
     (some (([y4.2.2.2.1.1] : List Pf), ()))
     (req (room (lenL y7.1) (lenL y8.1)) <|
     some (y7.1 ++ y8.1, ())))))
noncomputable def R_normWithin_fuel : Nat → Pf → List Pf → List Pf → Option ((List Pf) × Unit)
 | 0 => fun _ _ _ => none
 | n + 1 => R_normWithin_step (R_normWithin_fuel n)
noncomputable def R_normWithin_t : Pf → List Pf → List Pf → Option ((List Pf) × Unit) := R_normWithin_fuel RECN
noncomputable def R_NormOf_t (a0 : List Pf) (a1 : List Pf) : Option ((List Pf) × Unit) :=
 (R_normWithin_t (⟨(⟨false, 0, 0⟩ : Ad), 0⟩ : Pf) a0 a1).bind fun y1 =>
 (R_normWithin_t (⟨(⟨true, 0, 0⟩ : Ad), 0⟩ : Pf) a0 a1).bind fun y2 =>
 req (room (lenL y1.1) (lenL y2.1)) <|
 some (y1.1 ++ y2.1, ())
noncomputable def pick_left_L3 (rec : (((Unit) × (Unit) × (Int × Unit) × (Int × Unit) × Unit) × (List Pf × List Pf × Unit)) → Option (((Unit) × Unit) × (List Pf × List Pf × Unit))) (x : (((Unit) × (Unit) × (Int × Unit) × (Int × Unit) × Unit) × (List Pf × List Pf × Unit))) : Option (((Unit) × Unit) × (List Pf × List Pf × Unit)) :=
 let v0 := x.1.2.2.1.1
 let v1 := x.1.2.2.2.1.1
 let v2 := x.2.1
 let v3 := x.2.2.1
 br (decide (v1 < v0))
  (req (inRange v1 (lenL v2)) <|
  (geti v2 v1).bind fun p1 =>
  (span_Less_t v3 p1).bind fun y2 =>
  req (i64ok (v1 + 1)) <|
  rec (((()), (()), (v0, ()), (v1 + 1, ()), ()), (v2, y2.1, ())))
  (some (((()), ()), (v2, v3, ())))
noncomputable def pick_left_t (a0 : Pf) (a1 : List Pf) : Option ((List Pf) × Unit) :=
 (loopN pick_left_L3 FUEL (((()), (()), (lenL a1, ()), (0, ()), ()), (a1, ([a0] : List Pf), ()))).bind fun y1 =>
 some (y1.2.2.1, ())
noncomputable def pick_Free_t (a0 : Pf) (a1 : List Pf) : Option ((List Pf) × Int × Unit) :=
 (pick_ready_t a0 a1).bind fun y1 =>
 br (!decide (y1.1 = 0))
  (some (([] : List Pf), y1.1, ()))
  ((pick_left_t a0 a1).bind fun y2 =>
  some (y2.1, 0, ()))
noncomputable def zq2 (rec : (((Unit) × (Unit) × (Int × Unit) × (Int × Unit) × Unit) × (List Pf × (Pf × Unit) × (Int × Unit) × (Pf × Unit) × List Pf × Unit)) → Option ((((Int × Unit) × Unit) × (List Pf × (Pf × Unit) × (Int × Unit) × (Pf × Unit) × List Pf × Unit)) ⊕ ((Unit) × (List Pf × (Pf × Unit) × (Int × Unit) × (Pf × Unit) × List Pf × Unit)))) (x : (((Unit) × (Unit) × (Int × Unit) × (Int × Unit) × Unit) × (List Pf × (Pf × Unit) × (Int × Unit) × (Pf × Unit) × List Pf × Unit))) : Option ((((Int × Unit) × Unit) × (List Pf × (Pf × Unit) × (Int × Unit) × (Pf × Unit) × List Pf × Unit)) ⊕ ((Unit) × (List Pf × (Pf × Unit) × (Int × Unit) × (Pf × Unit) × List Pf × Unit))) :=
 let v0 := x.1.2.2.1.1
 let v1 := x.1.2.2.2.1.1
 let v2 := x.2.1
 let v3 := x.2.2.1.1
 let v4 := x.2.2.2.1.1
 let v5 := x.2.2.2.2.1.1
 let v6 := x.2.2.2.2.2.1
 br (decide (v1 < v0))
  (req (inRange v1 (lenL v6)) <|
  (geti v6 v1).bind fun p1 =>
  (pick_First_1_t p1 v4).bind fun y2 =>
  br y2.1
   (some (Sum.inl (((v1, ()), ()), (v2, (v3, ()), (v4, ()), (v5, ()), v6, ()))))
   (req (i64ok (v1 + 1)) <|
   rec (((()), (()), (v0, ()), (v1 + 1, ()), ()), (v2, (v3, ()), (v4, ()), (v5, ()), v6, ()))))
  (some (Sum.inr (((()), (v2, (v3, ()), (v4, ()), (v5, ()), v6, ())))))
noncomputable def pick_First_t (a0 : Pf) (a1 : List Pf) (a2 : Int) : Option (Pf × Int × Unit) :=
 (pick_ready_t a0 a1).bind fun y1 =>
 (br (decide (y1.1 = 0))
   (br (decide (a2 < a0.bits))
    (some true)
    ((prefix_Wide_t a0.ad).bind fun y2 =>
    some (decide (a2 > y2.1))))
   (some false)).bind fun c2 =>
 br c2
  (some ((⟨(⟨false, 0, 0⟩ : Ad), 0⟩ : Pf), 3, ()))
  (br (!decide (y1.1 = 0))
   (some ((⟨(⟨false, 0, 0⟩ : Ad), 0⟩ : Pf), y1.1, ()))
   ((pick_left_t a0 a1).bind fun y3 =>
   (loopN zq2 FUEL (((()), (()), (lenL y3.1, ()), (0, ()), ()), (a1, (a0, ()), (a2, ()), ((⟨(⟨false, 0, 0⟩ : Ad), 0⟩ : Pf), ()), y3.1, ()))).bind fun y4 =>
   sumC y4 (fun y5 =>
    br (decide (y5.1.1.1 < 0))
     (some ((⟨(⟨false, 0, 0⟩ : Ad), 0⟩ : Pf), 8, ()))
     (req (inRange y5.1.1.1 (lenL y5.2.2.2.2.2.1)) <|
     req (inRange y5.1.1.1 (lenL y5.2.2.2.2.2.1)) <|
     (geti y5.2.2.2.2.2.1 y5.1.1.1).bind fun p6 =>
     some ((⟨p6.ad, y5.2.2.2.1.1⟩ : Pf), 0, ()))) (fun y7 =>
    some ((⟨(⟨false, 0, 0⟩ : Ad), 0⟩ : Pf), 8, ()))))
noncomputable def R_FirstOf_L3 (rec : (((Unit) × (Int × Unit) × (Unit) × (Unit) × (Bool × Unit) × (Int × Unit) × Unit) × (List Pf × (Pf × Unit) × (Pf × Unit) × Unit)) → Option ((((Unit) × (Bool × Unit) × Unit) × (List Pf × (Pf × Unit) × Unit)) ⊕ (((Unit) × (Int × Unit) × (Unit) × (Unit) × (Bool × Unit) × Unit) × (List Pf × (Pf × Unit) × (Pf × Unit) × Unit)))) (x : (((Unit) × (Int × Unit) × (Unit) × (Unit) × (Bool × Unit) × (Int × Unit) × Unit) × (List Pf × (Pf × Unit) × (Pf × Unit) × Unit))) : Option ((((Unit) × (Bool × Unit) × Unit) × (List Pf × (Pf × Unit) × Unit)) ⊕ (((Unit) × (Int × Unit) × (Unit) × (Unit) × (Bool × Unit) × Unit) × (List Pf × (Pf × Unit) × (Pf × Unit) × Unit))) :=
 let v0 := x.1.2.1.1
 let v1 := x.1.2.2.2.2.1.1
 let v2 := x.1.2.2.2.2.2.1.1
 let v3 := x.2.1
 let v4 := x.2.2.1.1
 let v5 := x.2.2.2.1.1
 br (decide (v2 < lenL v3))
  (req (inRange v2 (lenL v3)) <|
  (geti v3 v2).bind fun p1 =>
  (R_HasPrefix_t p1 v4).bind fun y2 =>
  br y2.1
   (some (Sum.inl (((()), (false, ()), ()), (v3, ((⟨(⟨false, 0, 0⟩ : Ad), 0⟩ : Pf), ()), ()))))
   ((br v1
     (some true)
     (req (inRange v2 (lenL v3)) <|
     (geti v3 v2).bind fun p3 =>
     (R_DoMeet_t p3 v4).bind fun y4 =>
     some y4.1)).bind fun c3 =>
   req (i64ok (v2 + 1)) <|
   rec (((()), (v0, ()), (()), (()), (c3, ()), (v2 + 1, ()), ()), (v3, (v4, ()), (v5, ()), ()))))
  (some (Sum.inr ((((()), (v0, ()), (()), (()), (v1, ()), ()), (v3, (v4, ()), (v5, ()), ())))))
noncomputable def R_FirstOf_step (R_FirstOf_rec_t : Pf → List Pf → Int → Option (Pf × Bool × Unit)) (a0 : Pf) (a1 : List Pf) (a2 : Int) : Option (Pf × Bool × Unit) :=
 (loopN R_FirstOf_L3 FUEL (((()), (a2, ()), (()), (()), (false, ()), (0, ()), ()), (a1, (a0, ()), ((⟨(⟨false, 0, 0⟩ : Ad), 0⟩ : Pf), ()), ()))).bind fun y1 =>
 sumC y1 (fun y2 =>
  some (y2.2.2.1.1, y2.1.2.1.1, ())) (fun y3 =>
  br (!y3.1.2.2.2.2.1.1)
   (some ((⟨y3.2.2.1.1.ad, y3.1.2.1.1⟩ : Pf), true, ()))
   (br (decide (y3.2.2.1.1.bits = y3.1.2.1.1))
    (some ((⟨(⟨false, 0, 0⟩ : Ad), 0⟩ : Pf), false, ()))
    ((R_HalvesOf_t y3.2.2.1.1).bind fun y4 =>
    (R_FirstOf_rec_t y4.1 y3.2.1 y3.1.2.1.1).bind fun y5 =>
    br y5.2.1
     (some (y5.1, true, ()))
     ((R_FirstOf_rec_t y4.2.1 y3.2.1 y3.1.2.1.1).bind fun y6 =>
     some (y6.1, y6.2.1, ())))))
noncomputable def R_FirstOf_fuel : Nat → Pf → List Pf → Int → Option (Pf × Bool × Unit)
 | 0 => fun _ _ _ => none
 | n + 1 => R_FirstOf_step (R_FirstOf_fuel n)
noncomputable def R_FirstOf_t : Pf → List Pf → Int → Option (Pf × Bool × Unit) := R_FirstOf_fuel RECN
noncomputable def law_pickBegun_t : Option (Bool × Unit) :=
 (law_net_t 0 29).bind fun y1 =>
 (law_net_t 1 32).bind fun y2 =>
 (law_net_t 4 31).bind fun y3 =>
 (pick_Free_t y1.1 ([y2.1, y3.1] : List Pf)).bind fun y4 =>
 (law_net_t 0 29).bind fun y5 =>
 (law_net_t 1 32).bind fun y6 =>
 (law_net_t 4 31).bind fun y7 =>
 (pick_First_t y5.1 ([y6.1, y7.1] : List Pf) 31).bind fun y8 =>
 (law_net_t 0 29).bind fun y9 =>
 (law_net_t 1 32).bind fun y10 =>
 (law_net_t 4 31).bind fun y11 =>
 (pick_First_t y9.1 ([y10.1, y11.1] : List Pf) 30).bind fun y12 =>
 br (decide (y4.2.1 = 0))
  (br (decide (y8.2.1 = 0))
   (br (decide (y12.2.1 = 8))
    ((law_net_t 0 32).bind fun y13 =>
    (law_net_t 2 31).bind fun y14 =>
    (law_net_t 6 31).bind fun y15 =>
    (R_SamePrefixes_t y4.1 ([y13.1, y14.1, y15.1] : List Pf)).bind fun y16 =>
    br y16.1
     ((law_net_t 2 31).bind fun y17 =>
     some (eqPf y8.1 y17.1, ()))
     (some (false, ())))
    (some (false, ())))
   (some (false, ())))
  (some (false, ()))
noncomputable def law_PickTells_t (a0 : Pf) (a1 : List Pf) (a2 : Int) : Option (Bool × Unit) :=
 (pick_Free_t a0 a1).bind fun y1 =>
 (pick_First_t a0 a1 a2).bind fun y2 =>
 (R_CheckPrefix_t a0).bind fun y3 =>
 (br (decide (y3.1 = 0))
   ((R_CheckList_t a1).bind fun y4 =>
   some (((()), (a2, ()), (()), (()), (y1.2.1, ()), (()), (y2.2.1, ()), (y4.1, ()), ()), (a1, (a0, ()), y1.1, (y2.1, ()), ())))
   (some (((()), (a2, ()), (()), (()), (y1.2.1, ()), (()), (y2.2.1, ()), (y3.1, ()), ()), (a1, (a0, ()), y1.1, (y2.1, ()), ())))).bind fun y5 =>
 (br (decide (y5.1.2.2.2.2.2.2.2.1.1 = 0))
   (br (decide (y5.1.2.1.1 < y5.2.2.1.1.bits))
    (some true)
    ((R_Bits_t y5.2.2.1.1.ad).bind fun y6 =>
    some (decide (y5.1.2.1.1 > lenS y6.1))))
   (some false)).bind fun c6 =>
 (br c6
   (some (((()), (y5.1.2.1.1, ()), (()), (()), (y5.1.2.2.2.2.1.1, ()), (()), (y5.1.2.2.2.2.2.2.1.1, ()), (y5.1.2.2.2.2.2.2.2.1.1, ()), (3, ()), ()), (y5.2.1, (y5.2.2.1.1, ()), y5.2.2.2.1, (y5.2.2.2.2.1.1, ()), ())))
   (some (((()), (y5.1.2.1.1, ()), (()), (()), (y5.1.2.2.2.2.1.1, ()), (()), (y5.1.2.2.2.2.2.2.1.1, ()), (y5.1.2.2.2.2.2.2.2.1.1, ()), (y5.1.2.2.2.2.2.2.2.1.1, ()), ()), (y5.2.1, (y5.2.2.1.1, ()), y5.2.2.2.1, (y5.2.2.2.2.1.1, ()), ())))).bind fun y7 =>
 (br (decide (y7.1.2.2.2.2.2.2.2.1.1 = 0))
   ((R_NormOf_t ([y7.2.2.1.1] : List Pf) y7.2.1).bind fun y8 =>
   some (((()), (y7.1.2.1.1, ()), (()), (()), (y7.1.2.2.2.2.1.1, ()), (()), (y7.1.2.2.2.2.2.2.1.1, ()), (y7.1.2.2.2.2.2.2.2.1.1, ()), (y7.1.2.2.2.2.2.2.2.2.1.1, ()), (()), (()), ()), (y7.2.1, (y7.2.2.1.1, ()), y7.2.2.2.1, (y7.2.2.2.2.1.1, ()), y8.1, ((⟨(⟨false, 0, 0⟩ : Ad), 0⟩ : Pf), ()), ())))
   (some (((()), (y7.1.2.1.1, ()), (()), (()), (y7.1.2.2.2.2.1.1, ()), (()), (y7.1.2.2.2.2.2.2.1.1, ()), (y7.1.2.2.2.2.2.2.2.1.1, ()), (y7.1.2.2.2.2.2.2.2.2.1.1, ()), (()), (()), ()), (y7.2.1, (y7.2.2.1.1, ()), y7.2.2.2.1, (y7.2.2.2.2.1.1, ()), ([] : List Pf), ((⟨(⟨false, 0, 0⟩ : Ad), 0⟩ : Pf), ()), ())))).bind fun y9 =>
 (br (decide (y9.1.2.2.2.2.2.2.2.2.1.1 = 0))
   ((R_FirstOf_t y9.2.2.1.1 y9.2.1 y9.1.2.1.1).bind fun y10 =>
   (br (!y10.2.1)
     (some (((()), (y9.1.2.2.2.2.1.1, ()), (()), (y9.1.2.2.2.2.2.2.1.1, ()), (y9.1.2.2.2.2.2.2.2.1.1, ()), (8, ()), (()), (()), ()), (y9.2.1, y9.2.2.2.1, (y9.2.2.2.2.1.1, ()), y9.2.2.2.2.2.1, ((⟨(⟨false, 0, 0⟩ : Ad), 0⟩ : Pf), ()), ())))
     (some (((()), (y9.1.2.2.2.2.1.1, ()), (()), (y9.1.2.2.2.2.2.2.1.1, ()), (y9.1.2.2.2.2.2.2.2.1.1, ()), (y9.1.2.2.2.2.2.2.2.2.1.1, ()), (()), (()), ()), (y9.2.1, y9.2.2.2.1, (y9.2.2.2.2.1.1, ()), y9.2.2.2.2.2.1, (y10.1, ()), ())))).bind fun y11 =>
   some (((()), (y11.1.2.1.1, ()), (()), (y11.1.2.2.2.1.1, ()), (y11.1.2.2.2.2.1.1, ()), (y11.1.2.2.2.2.2.1.1, ()), (()), (()), ()), (y11.2.1, y11.2.2.1, (y11.2.2.2.1.1, ()), y11.2.2.2.2.1, (y11.2.2.2.2.2.1.1, ()), ())))
   (some (((()), (y9.1.2.2.2.2.1.1, ()), (()), (y9.1.2.2.2.2.2.2.1.1, ()), (y9.1.2.2.2.2.2.2.2.1.1, ()), (y9.1.2.2.2.2.2.2.2.2.1.1, ()), (()), (()), ()), (y9.2.1, y9.2.2.2.1, (y9.2.2.2.2.1.1, ()), y9.2.2.2.2.2.1, (y9.2.2.2.2.2.2.1.1, ()), ())))).bind fun y12 =>
 law_pickBegun_t.bind fun y13 =>
 (br y13.1
   ((law_prefixesAre_t y12.2.2.1 y12.1.2.1.1 y12.1.2.2.2.2.1.1 y12.2.2.2.2.1).bind fun y14 =>
   some y14.1)
   (some false)).bind fun c14 =>
 (br c14
   (some (decide (y12.1.2.2.2.1.1 = y12.1.2.2.2.2.2.1.1)))
   (some false)).bind fun c15 =>
 (br c15
   (some (eqPf y12.2.2.2.1.1 y12.2.2.2.2.2.1.1))
   (some false)).bind fun c16 =>
 some (c16, ())
end Go.Ma
namespace Go.Ma
open Go
noncomputable def splitF (p : Pf) : Option (Pf × Pf × Unit) :=
 req (i64ok (p.bits + 1)) <| (prefix_Last_t ⟨p.ad, p.bits + 1⟩).bind fun y1 => (addr_After_t y1.1).bind fun y2 => some (⟨p.ad, p.bits + 1⟩, ⟨y2.1, p.bits + 1⟩, ())
theorem req_twice {X : Type} (c : Bool) (a : Option X) : req c (req c a) = req c a := by cases c <;> rfl
theorem prefix_Split_eq (p : Pf) : prefix_Split_t p = splitF p := by
 unfold prefix_Split_t splitF
 try simp only [dup_eq, both_self]
 cases h : i64ok (p.bits + 1)
 ·rfl
 ·simp only [req_true]
noncomputable def joinF (a b : Pf) : Option (Pf × Bool × Unit) :=
 br (bif decide (a.bits = 0) then true else bif !decide (a.bits = b.bits) then true else !(beqB a.ad.v6 b.ad.v6)) (some ((⟨⟨false, 0, 0⟩, 0⟩ : Pf), false, ()))
  (req (i64ok (a.bits - 1)) <| (prefix_Cut_t a.ad (a.bits - 1)).bind fun y => (splitF ⟨y.1, a.bits - 1⟩).bind fun z => br (eqPf z.1 a) (some (⟨y.1, a.bits - 1⟩, eqPf z.2.1 b, ())) (some (⟨y.1, a.bits - 1⟩, false, ())))
theorem prefix_Joined_eq (a b : Pf) : prefix_Joined_t a b = joinF a b := by
 unfold prefix_Joined_t joinF
 simp only [dup_eq, both_self, prefix_Split_eq, req_twice, br_sb, bind_s]
 cases decide (a.bits = 0) <;> cases decide (a.bits = b.bits) <;> cases beqB a.ad.v6 b.ad.v6 <;> rfl
end Go.Ma
namespace Go.Ma
open Go
end Go.Ma
namespace Go.Ma
open Go
theorem prefix_Over_eq {p q : Pf} (cp : chkP p = 0) (hq : q.In) : prefix_Over_t p q = some (over p q, ()) := by
 obtain ⟨h1, h2⟩ := chkP_bits cp
 unfold prefix_Over_t over
 rw [prefix_Holds_eq h1 h2 hq.1, bind_s, br_sb, bind_s]
 cases decide (p.bits ≤ q.bits) <;> rfl
theorem R_HasPrefix_eq {p q : Pf} (hp : p.In) (cp : chkP p = 0) (hq : q.In) (cq : chkA q.ad = 0) : R_HasPrefix_t p q = some (over p q, ()) := by
 unfold R_HasPrefix_t over
 rw [R_HasAddr_eq hp cp hq.1 cq, bind_s, br_sb, bind_s]
 cases decide (p.bits ≤ q.bits) <;> rfl
end Go.Ma
namespace Go.Ma
open Go
end Go.Ma
namespace Go.Ma
open Go
def tabIn (l : List Pf) : Prop := ∀ p ∈ l, p.In
end Go.Ma
namespace Go.Ma
open Go
end Go.Ma
namespace Go.Ma
open Go
end Go.Ma
namespace Go.Ma
open Go
theorem holds_iff {p : Pf} {a : Ad} : holds p a = true ↔ p.ad.v6 = a.v6 ∧ cutA a p.bits = p.ad := by simp [holds]
theorem over_iff {p q : Pf} : over p q = true ↔ p.bits ≤ q.bits ∧ holds p q.ad = true := by simp [over]
end Go.Ma
namespace Go.Ma
open Go
theorem or_maskC (x k : Nat) (hx : x < 18446744073709551616) (hk : k ≤ 64) (hm : x % 2 ^ k = 0) : aop .or .u64 (x : Int) ((2 ^ k - 1 : Nat) : Int) = ((x + (2 ^ k - 1) : Nat) : Int) := by
 have hp := Nat.two_pow_pos k
 have hle : 2 ^ k ≤ 2 ^ 64 := Nat.pow_le_pow_right (by omega) hk
 obtain ⟨m, rfl⟩ := Nat.dvd_of_mod_eq_zero hm
 have hlt : 2 ^ k * m + 2 ^ k ≤ 18446744073709551616 := by
  have h5 : (18446744073709551616 : Nat) = 2 ^ k * 2 ^ (64 - k) := by rw [← Nat.pow_add]; rw [show k + (64 - k) = 64 by omega]
  rw [h5] at hx ⊢
  have := Nat.lt_of_mul_lt_mul_left hx
  calc 2 ^ k * m + 2 ^ k = 2 ^ k * (m + 1) := by rw [Nat.mul_add, Nat.mul_one]
   _ ≤ _ := Nat.mul_le_mul_left _ this
 have e1 : ∀ n : Nat, n < 18446744073709551616 → (BitVec.ofInt 64 (n : Int)).toNat = n := fun n hn => by
  rw [BitVec.toNat_ofInt]
  have : ((n : Int) % ((2 ^ 64 : Nat) : Int)) = (n : Int) := Int.emod_eq_of_lt (by omega) (by omega)
  rw [this]; rfl
 show IntKind.u64.wrap (((BitVec.ofInt 64 ((2 ^ k * m : Nat) : Int) ||| BitVec.ofInt 64 ((2 ^ k - 1 : Nat) : Int)).toNat : Nat) : Int) = _
 rw [BitVec.toNat_or, e1 _ (by omega), e1 _ (by omega), ← Nat.two_pow_add_eq_or_of_lt (by omega), wrap_u64 (by omega) (by omega)]
def free (p : Pf) : Nat := wid p.ad.v6 - p.bits.toNat
theorem free_facts {p : Pf} (hp : p.In) (cp : chkP p = 0) : free p ≤ wid p.ad.v6 ∧ p.ad.num % 2 ^ free p = 0 ∧ p.ad.num + 2 ^ free p ≤ 2 ^ wid p.ad.v6 := by
 have h3 : p.ad.num % 2 ^ free p = 0 := (cutN_iff _ _).1 ((cutA_iff hp.1.wf p.bits).1 (chkP_cut cp))
 have h4 := right_num p.ad ⟨hp.1.wf, chkP_ad cp⟩
 have hk : free p ≤ wid p.ad.v6 := by unfold free; omega
 refine ⟨hk, h3, ?_⟩
 have h5 : 2 ^ wid p.ad.v6 = 2 ^ free p * 2 ^ (wid p.ad.v6 - free p) := by rw [← Nat.pow_add]; congr 1; omega
 obtain ⟨m, hm⟩ := Nat.dvd_of_mod_eq_zero h3
 rw [hm, h5] at h4 ⊢
 have := Nat.lt_of_mul_lt_mul_left h4
 calc 2 ^ free p * m + 2 ^ free p = 2 ^ free p * (m + 1) := by rw [Nat.mul_add, Nat.mul_one]
  _ ≤ _ := Nat.mul_le_mul_left _ this
theorem low_high (hi lo k : Nat) (h : (hi * 18446744073709551616 + lo) % 2 ^ k = 0) (hlo : lo < 18446744073709551616) : hi % 2 ^ (k - 64) = 0 ∧ lo % 2 ^ (min k 64) = 0 := by
 by_cases hk : k ≤ 64
 ·have h5 : (18446744073709551616 : Nat) = 2 ^ k * 2 ^ (64 - k) := by rw [← Nat.pow_add]; rw [show k + (64 - k) = 64 by omega]
  rw [h5, Nat.mul_left_comm, Nat.mul_add_mod] at h
  rw [show k - 64 = 0 by omega, Nat.min_eq_left hk]
  exact ⟨Nat.mod_one _, h⟩
 ·have e := pow_split (r := k) (by omega)
  rw [Nat.min_eq_right (by omega)]
  rw [e] at h
  have h1 : lo = 0 := by
   have h2 : (hi * 18446744073709551616 + lo) % 18446744073709551616 = 0 := by
    have h3 := Nat.mod_mul_left_mod (hi * 18446744073709551616 + lo) (2 ^ (k - 64)) 18446744073709551616
    rw [h] at h3
    rw [← h3]
   omega
  subst h1
  rw [Nat.add_zero, Nat.mul_mod_mul_right] at h
  refine ⟨?_, by simp⟩
  have := Nat.mul_eq_zero.1 h
  omega
theorem last_eq {p : Pf} (hp : p.In) (cp : chkP p = 0) : prefix_Last_t p = some (lastA p, ()) := by
 obtain ⟨b1, b2⟩ := chkP_bits cp
 obtain ⟨f1, f2, f3⟩ := free_facts hp cp
 have hw := wid_le p.ad.v6
 obtain ⟨⟨h1, h2⟩, h3, h4⟩ := hp.1
 unfold prefix_Last_t
 rw [prefix_mask_eq p.ad p.bits b1 b2, bind_s, maskA_parts]
 show some (_, ()) = some (ofNum p.ad.v6 (p.ad.num + (2 ^ free p - 1)), ())
 obtain ⟨hi, hhi⟩ := Int.eq_ofNat_of_zero_le h1
 obtain ⟨lo, hlo⟩ := Int.eq_ofNat_of_zero_le h3
 have hnum : p.ad.num = hi * 18446744073709551616 + lo := by unfold Ad.num; rw [hhi, hlo]; rfl
 obtain ⟨g1, g2⟩ := low_high hi lo (free p) (by rw [← hnum]; exact f2) (by omega)
 have o1 : aop .or .u64 p.ad.hi ((2 ^ (wid p.ad.v6 - p.bits.toNat - 64) - 1 : Nat) : Int) = ((hi + (2 ^ (free p - 64) - 1) : Nat) : Int) := by
  rw [hhi]
  exact or_maskC hi (free p - 64) (by omega) (by omega) g1
 have o2 : aop .or .u64 p.ad.lo ((2 ^ (min (wid p.ad.v6 - p.bits.toNat) 64) - 1 : Nat) : Int) = ((lo + (2 ^ (min (free p) 64) - 1) : Nat) : Int) := by
  rw [hlo]
  exact or_maskC lo (min (free p) 64) (by omega) (by omega) g2
 simp only [o1, o2]
 obtain ⟨m1, m2⟩ := mask_parts (free p)
 have hlt : lo + (2 ^ (min (free p) 64) - 1) < 18446744073709551616 := by
  have hle : min (free p) 64 ≤ 64 := by omega
  obtain ⟨m, hm⟩ := Nat.dvd_of_mod_eq_zero g2
  have h5 : (18446744073709551616 : Nat) = 2 ^ (min (free p) 64) * 2 ^ (64 - min (free p) 64) := by rw [← Nat.pow_add]; rw [show min (free p) 64 + (64 - min (free p) 64) = 64 by omega]
  have hl : lo < 18446744073709551616 := by omega
  have hpp := Nat.two_pow_pos (min (free p) 64)
  rw [hm, h5] at hl ⊢
  have := Nat.lt_of_mul_lt_mul_left hl
  have h7 : 2 ^ (min (free p) 64) * m + 2 ^ (min (free p) 64) ≤ 2 ^ (min (free p) 64) * 2 ^ (64 - min (free p) 64) := by
   calc 2 ^ (min (free p) 64) * m + 2 ^ (min (free p) 64) = 2 ^ (min (free p) 64) * (m + 1) := by rw [Nat.mul_add, Nat.mul_one]
    _ ≤ _ := Nat.mul_le_mul_left _ this
  omega
 have hsum : p.ad.num + (2 ^ free p - 1) = (hi + (2 ^ (free p - 64) - 1)) * 18446744073709551616 + (lo + (2 ^ (min (free p) 64) - 1)) := by
  rw [← m1, ← m2, hnum]
  omega
 rw [hsum]
 unfold ofNum
 congr 2
 simp only [Ad.mk.injEq, true_and]
 constructor <;> omega
theorem last_num {p : Pf} (hp : p.In) (cp : chkP p = 0) : (lastA p).num = p.ad.num + (2 ^ free p - 1) ∧ (lastA p).v6 = p.ad.v6 := by
 unfold lastA
 rw [num_ofNum]
 exact ⟨rfl, rfl⟩
theorem ofNum_inC {v : Bool} {n : Nat} (h : n < 2 ^ wid v) : (ofNum v n).In := by
 have : 2 ^ wid v ≤ 340282366920938463463374607431768211456 := by cases v <;> decide
 unfold ofNum
 exact ⟨⟨by simp only; omega, by simp only; omega⟩, by simp only; omega, by simp only; omega⟩
theorem ofNum_chkC {v : Bool} {n : Nat} (h : n < 2 ^ wid v) : chkA (ofNum v n) = 0 := by
 unfold chkA ofNum
 cases v
 ·rw [show wid false = 32 from rfl] at h
  rw [if_neg]
  simp only
  omega
 ·simp
theorem last_in {p : Pf} (hp : p.In) (cp : chkP p = 0) : (lastA p).In ∧ chkA (lastA p) = 0 := by
 obtain ⟨f1, f2, f3⟩ := free_facts hp cp
 have hpp := Nat.two_pow_pos (free p)
 have : p.ad.num + (2 ^ free p - 1) < 2 ^ wid p.ad.v6 := by omega
 exact ⟨ofNum_inC this, ofNum_chkC this⟩
theorem holds_span {p : Pf} {a : Ad} (hp : p.In) (cp : chkP p = 0) (ha : a.In) : holds p a = true ↔ p.ad.v6 = a.v6 ∧ p.ad.num ≤ a.num ∧ a.num < p.ad.num + 2 ^ free p := by
 obtain ⟨f1, f2, f3⟩ := free_facts hp cp
 have hpp := Nat.two_pow_pos (free p)
 rw [holds_iff]
 constructor
 ·rintro ⟨h1, h2⟩
  have h3 : p.ad.num = cutN a.num (free p) := by
   have h4 : (cutA a p.bits).num = cutN a.num (wid a.v6 - p.bits.toNat) := by unfold cutA; rw [num_ofNum]
   rw [h2] at h4
   rw [h4]
   unfold free
   rw [h1]
  unfold cutN at h3
  have := Nat.div_add_mod a.num (2 ^ free p)
  have h5 := Nat.mod_lt a.num hpp
  rw [Nat.mul_comm] at this
  refine ⟨h1, by omega, by omega⟩
 ·rintro ⟨h1, h2, h3⟩
  refine ⟨h1, ?_⟩
  obtain ⟨m, hm⟩ := Nat.dvd_of_mod_eq_zero f2
  have h4 : a.num / 2 ^ free p = m := by
   apply Nat.div_eq_of_lt_le
   ·rw [Nat.mul_comm]; omega
   ·rw [Nat.add_mul, Nat.one_mul, Nat.mul_comm]; omega
  unfold cutA cutN
  rw [show wid a.v6 - p.bits.toNat = free p by unfold free; rw [h1], h4, ← h1, Nat.mul_comm, ← hm, ofNum_num p.ad hp.1.wf]
end Go.Ma
namespace Go.Ma
open Go
def lowB (b : UInt8) : Bool := betw (b.toNat : Int) 97 122 || betw (b.toNat : Int) 48 57
def whoOk (s : ByteArray) : Bool := s.data.toList.all lowB && betw (lenS s) 1 8
end Go.Ma
namespace Go.Ma
open Go
def rank (a : Ad) : Nat := (if a.v6 then 340282366920938463463374607431768211456 else 0) + a.num
theorem num_lt {a : Ad} (h : a.In) : a.num < 340282366920938463463374607431768211456 := by
 obtain ⟨⟨h1, h2⟩, h3, h4⟩ := h
 unfold Ad.num
 omega
theorem ord_rank {a b : Ad} (ha : a.In) (hb : b.In) : (ordA a b < 0 ↔ rank a < rank b) ∧ (ordA a b = 0 ↔ rank a = rank b) := by
 have h1 := num_lt ha
 have h2 := num_lt hb
 obtain ⟨⟨a1, a2⟩, a3, a4⟩ := ha
 obtain ⟨⟨b1, b2⟩, b3, b4⟩ := hb
 unfold ordA ordI rank
 unfold Ad.num at *
 cases hv : a.v6 <;> cases hw : b.v6 <;> simp
 ·by_cases h : a.hi = b.hi
  ·simp only [h, if_true]
   by_cases h3 : a.lo < b.lo
   ·simp only [h3, if_true]; omega
   ·by_cases h4 : b.lo < a.lo
    ·simp only [h3, h4, if_true, if_false]; omega
    ·have h5 : a.lo = b.lo := by omega
     simp [h5]
  ·simp only [h, if_false]
   by_cases h3 : a.hi < b.hi
   ·simp only [h3, if_true]; omega
   ·by_cases h4 : b.hi < a.hi
    ·simp only [h3, h4, if_true, if_false]; omega
    ·simp only [h3, h4, if_false]; omega
 ·omega
 ·omega
 ·by_cases h : a.hi = b.hi
  ·simp only [h, if_true]
   by_cases h3 : a.lo < b.lo
   ·simp only [h3, if_true]; omega
   ·by_cases h4 : b.lo < a.lo
    ·simp only [h3, h4, if_true, if_false]; omega
    ·have h5 : a.lo = b.lo := by omega
     simp [h5]
  ·simp only [h, if_false]
   by_cases h3 : a.hi < b.hi
   ·simp only [h3, if_true]; omega
   ·by_cases h4 : b.hi < a.hi
    ·simp only [h3, h4, if_true, if_false]; omega
    ·simp only [h3, h4, if_false]; omega
def lsIn (l : List Ls) : Prop := ∀ x ∈ l, x.In
def chkLs (x : Ls) : Int := if chkA x.ad ≠ 0 then chkA x.ad else if whoOk x.who = false then 1 else if betw x.upto 0 10499 = false then 3 else 0
def chkLsF : List Ls → Int
 | [] => 0
 | x :: r => if chkLs x ≠ 0 then chkLs x else chkLsF r
def ascF : Ad → List Ls → Bool
 | _, [] => true
 | a, x :: r => decide (ordA a x.ad < 0) && ascF x.ad r
def ascL : List Ls → Bool
 | [] => true
 | x :: r => ascF x.ad r
def allC (l : List Ls) (now : Int) : Int := if l.length > 20 then 2 else if chkLsF l ≠ 0 then chkLsF l else if ascL l = false then 4 else if betw now 0 9999 = false then 3 else 0
end Go.Ma
namespace Go.Ma
open Go
end Go.Ma
namespace Go.Ma
open Go
def firstF {α : Type} (q : α → Bool) : List α → Option Nat
 | [] => none
 | x :: r => if q x then some 0 else (firstF q r).map (· + 1)
theorem firstF_at {α : Type} {q : α → Bool} {l : List α} {i : Nat} {x : α} (h : l[i]? = some x) : (firstF q (l.drop i)).map (· + i) = if q x then some i else (firstF q (l.drop (i + 1))).map (· + (i + 1)) := by
 rw [drop_cons h, firstF]
 cases q x
 ·simp only [Bool.false_eq_true, if_false, Option.map_map]
  congr 1
  funext k
  simp only [Function.comp]
  omega
 ·simp
theorem firstF_some {α : Type} {q : α → Bool} : ∀ {l : List α} {k : Nat}, firstF q l = some k → ∃ x, l[k]? = some x ∧ q x = true ∧ ∀ y ∈ l.take k, q y = false
 | [], _, h => by cases h
 | y :: r, k, h => by
  unfold firstF at h
  split at h
  ·rename_i hq
   cases h
   exact ⟨y, rfl, hq, fun z hz => by simp at hz⟩
  ·rename_i hq
   obtain ⟨k', hk, rfl⟩ := Option.map_eq_some_iff.1 h
   obtain ⟨x, h1, h2, h3⟩ := firstF_some hk
   refine ⟨x, by simpa using h1, h2, fun z hz => ?_⟩
   rw [List.take_succ_cons] at hz
   rcases List.mem_cons.1 hz with rfl | hz
   ·simpa using hq
   ·exact h3 z hz
theorem firstF_lt {α : Type} {q : α → Bool} {l : List α} {k : Nat} (h : firstF q l = some k) : k < l.length := by
 obtain ⟨x, h1, _⟩ := firstF_some h
 exact (List.getElem?_eq_some_iff.1 h1).1
end Go.Ma
namespace Go.Ma
open Go
def adIn (l : List Ad) : Prop := ∀ a ∈ l, a.In
def backB : Option Ad → Ad → Bool
 | some b, a => decide (ordA b a ≥ 0)
 | none, _ => false
def keptF (p : Pf) : Option Ad → List Ad → Int
 | _, [] => 0
 | prev, a :: r => if chkA a ≠ 0 then chkA a else if holds p a = false then 5 else if backB prev a = true then 4 else keptF p (some a) r
def chkPool (p : Pf) (kp : List Ad) : Int := if chkP p ≠ 0 then chkP p else if ¬ ((wid p.ad.v6 : Nat) : Int) - p.bits ≤ 4 ∨ kp.length > 6 then 2 else keptF p none kp
end Go.Ma
namespace Go.Ma
open Go
end Go.Ma
namespace Go.Ma
open Go
theorem wid_pow (v : Bool) : 2 ^ wid v ≤ 340282366920938463463374607431768211456 := by cases v <;> decide
theorem addr_After_eq {v : Bool} {n : Nat} (h : n + 1 < 2 ^ wid v) : addr_After_t (ofNum v n) = some (ofNum v (n + 1), true, ()) := by
 unfold addr_After_t
 simp only [both_self, dup_eq]
 have hadd : ∀ m : Nat, aop .add .u64 (m : Int) 1 = (((m + 1) % 18446744073709551616 : Nat) : Int) := fun m => by
  simp only [aop, wrap_u64_mod]
  omega
 have hw := wid_pow v
 cases v
 ·rw [show wid false = 32 from rfl] at h
  have q1 : (n + 1) / 18446744073709551616 = 0 := by omega
  have q2 : n / 18446744073709551616 = 0 := by omega
  have q3 : (n % 18446744073709551616 + 1) % 18446744073709551616 = n + 1 := by omega
  have q4 : (n + 1) % 18446744073709551616 = n + 1 := by omega
  simp only [ofNum, hadd, br_false, bind_s, q1, q2, q3, q4, both_self]
  rw [decide_eq_true (show (((n + 1 : Nat) : Int)) < 4294967296 by omega)]
 ·rw [show wid true = 128 from rfl] at h
  simp only [ofNum, hadd, br_true, bind_s]
  by_cases hc : n % 18446744073709551616 + 1 = 18446744073709551616
  ·have q1 : (n + 1) / 18446744073709551616 = n / 18446744073709551616 + 1 := by omega
   have q2 : (n + 1) % 18446744073709551616 = 0 := by omega
   have q3 : (n / 18446744073709551616 + 1) % 18446744073709551616 = n / 18446744073709551616 + 1 := by omega
   rw [hc, Nat.mod_self, decide_eq_true (show ((0 : Nat) : Int) = 0 from rfl), br_true, q1, q2, q3]
   rw [decide_eq_false (show ¬ (((n / 18446744073709551616 + 1 : Nat) : Int)) = 0 by omega)]
   rfl
  ·have q1 : (n + 1) / 18446744073709551616 = n / 18446744073709551616 := by omega
   have q2 : (n + 1) % 18446744073709551616 = n % 18446744073709551616 + 1 := by omega
   have q3 : (n % 18446744073709551616 + 1) % 18446744073709551616 = n % 18446744073709551616 + 1 := by omega
   rw [q3, decide_eq_false (show ¬ (((n % 18446744073709551616 + 1 : Nat) : Int)) = 0 by omega), br_false, q1, q2]
end Go.Ma
namespace Go.Ma
open Go
end Go.Ma
namespace Go.Ma
open Go
theorem div_step (m j : Nat) : m / 2 ^ j = 2 * (m / 2 ^ (j + 1)) + (if m.testBit j then 1 else 0) := by
 have h1 : m / 2 ^ (j + 1) = m / 2 ^ j / 2 := by rw [Nat.pow_succ, Nat.div_div_eq_div_mul]
 rw [h1, Nat.testBit_eq_decide_div_mod_eq]
 by_cases h : m / 2 ^ j % 2 = 1 <;> simp only [h, decide_true, decide_false, if_true, if_false, Bool.false_eq_true] <;> omega
theorem bit_val (n i : Nat) : convI .u64 (aop .sub .u8 ((bitV n i).toNat : Int) 48) = ((if n.testBit i then 1 else 0 : Nat) : Int) := by
 unfold bitV
 cases n.testBit i <;> decide
theorem dbl_step (x b r : Nat) (h : r = 2 * x + b) (hr : r < 18446744073709551616) : aop .add .u64 (aop .mul .u64 2 (x : Int)) (b : Int) = (r : Int) := by
 simp only [aop, wrap_u64_mod]
 omega
def accN (v : Bool) (n k : Nat) : Ad := ⟨v, ((n / 2 ^ (max k 64) : Nat) : Int), ((n % 18446744073709551616 / 2 ^ k : Nat) : Int)⟩
theorem acc_step {v : Bool} {n k : Nat} (hn : n < 2 ^ 128) : accN v n k = if k + 1 > 64 then (⟨v, aop .add .u64 (aop .mul .u64 2 (accN v n (k + 1)).hi) ((if n.testBit k then 1 else 0 : Nat) : Int), (accN v n (k + 1)).lo⟩ : Ad)
  else ⟨v, (accN v n (k + 1)).hi, aop .add .u64 (aop .mul .u64 2 (accN v n (k + 1)).lo) ((if n.testBit k then 1 else 0 : Nat) : Int)⟩ := by
 by_cases hk : k + 1 > 64
 ·rw [if_pos hk]
  unfold accN
  simp only
  have e1 : max k 64 = k := by omega
  have e2 : max (k + 1) 64 = k + 1 := by omega
  rw [e1, e2]
  have hlt : n / 2 ^ k < 18446744073709551616 := by
   rw [Nat.div_lt_iff_lt_mul (Nat.two_pow_pos k)]
   have : 2 ^ 64 ≤ 2 ^ k := Nat.pow_le_pow_right (by omega) (by omega)
   calc n < 2 ^ 128 := hn
    _ = 18446744073709551616 * 2 ^ 64 := by decide
    _ ≤ _ := Nat.mul_le_mul_left _ this
  rw [dbl_step _ _ _ (div_step n k) hlt]
  have z : ∀ q, 64 ≤ q → n % 18446744073709551616 / 2 ^ q = 0 := fun q hq => by
   apply Nat.div_eq_of_lt
   have : 2 ^ 64 ≤ 2 ^ q := Nat.pow_le_pow_right (by omega) hq
   omega
  rw [z k (by omega), z (k + 1) (by omega)]
 ·rw [if_neg hk]
  unfold accN
  simp only
  have e1 : max k 64 = 64 := by omega
  have e2 : max (k + 1) 64 = 64 := by omega
  rw [e1, e2]
  have ht : n.testBit k = (n % 18446744073709551616).testBit k := by
   rw [show (18446744073709551616 : Nat) = 2 ^ 64 from rfl, Nat.testBit_mod_two_pow]
   simp
   omega
  have hlt : n % 18446744073709551616 / 2 ^ k < 18446744073709551616 := Nat.lt_of_le_of_lt (Nat.div_le_self _ _) (Nat.mod_lt _ (by omega))
  rw [ht, dbl_step _ _ _ (div_step (n % 18446744073709551616) k) hlt]
theorem R_AddrOf_eq {v : Bool} {n : Nat} (h : n < 2 ^ wid v) : R_AddrOf_t (ofBytes (bitsTo n (wid v - 1) (wid v))) = some (ofNum v n, ()) := by
 have hw := wid_pow v
 have hn : n < 2 ^ 128 := Nat.lt_of_lt_of_le h (Nat.le_trans hw (by decide))
 have hlen : (ofBytes (bitsTo n (wid v - 1) (wid v))).size = wid v := by rw [ofBytes_size, bitsTo_length]
 have hwl := wid_le v
 unfold R_AddrOf_t
 have hv : decide (lenS (ofBytes (bitsTo n (wid v - 1) (wid v))) = 128) = v := by
  unfold lenS
  rw [hlen]
  cases v <;> decide
 rw [hv]
 generalize hs : ofBytes (bitsTo n (wid v - 1) (wid v)) = s at hlen ⊢
 have := loop_up (step := R_AddrOf_L3) (fun i => (((s, ()), (), (), ((i : Int), ()), ()), (((⟨false, 0, 0⟩ : Ad), ()), (accN v n (wid v - i), ()), ()))) (wid v) (fun i => some (((), (), ()), (((⟨false, 0, 0⟩ : Ad), ()), (ofNum v n, ()), ()))) (fun rec i hi hr => ?_) (fun rec => ?_) FUEL 0 (Nat.zero_le _) (fuel_gt (by omega))
 ·have h0 : accN v n (wid v - 0) = ⟨v, 0, 0⟩ := by
   unfold accN
   have q1 : n / 2 ^ (max (wid v - 0) 64) = 0 := by
    apply Nat.div_eq_of_lt
    exact Nat.lt_of_lt_of_le h (Nat.pow_le_pow_right (by omega) (by omega))
   have q2 : n % 18446744073709551616 / 2 ^ (wid v - 0) = 0 := by
    apply Nat.div_eq_of_lt
    exact Nat.lt_of_le_of_lt (Nat.mod_le _ _) h
   rw [q1, q2]
   rfl
  rw [h0] at this
  rw [show ((0 : Nat) : Int) = 0 from rfl] at this
  rw [this, bind_s]
 ·have hb : s.data.toList[i]? = some (bitV n (wid v - 1 - i)) := by
   rw [← hs, ofBytes_list, bitsTo_get, if_pos hi]
  simp only [R_AddrOf_L3]
  rw [decide_eq_true (show (i : Int) < lenS s by unfold lenS; omega), br_true, req_of (inRange_of (by omega) (by unfold lenS; omega)), req_of (i64ok_of (by unfold lenS; omega) (by unfold lenS; omega)), byteAt_eq hb, bit_val]
  have hst := acc_step (v := v) (k := wid v - (i + 1)) hn
  rw [show wid v - (i + 1) + 1 = wid v - i by omega, show wid v - (i + 1) = wid v - 1 - i by omega] at hst
  rw [show ((i : Int) + 1) = ((i + 1 : Nat) : Int) by omega, show wid v - (i + 1) = wid v - 1 - i by omega] at *
  by_cases hk : wid v - i > 64
  ·rw [if_pos hk] at hst
   rw [decide_eq_true (show lenS s - (i : Int) > 64 by unfold lenS; omega), br_true, req_of (i64ok_of (by omega) (by omega))]
   rw [show (accN v n (wid v - i)).v6 = v from rfl, ← hst, hr]
  ·rw [if_neg hk] at hst
   rw [decide_eq_false (show ¬ lenS s - (i : Int) > 64 by unfold lenS; omega), br_false, req_of (i64ok_of (by omega) (by omega))]
   rw [show (accN v n (wid v - i)).v6 = v from rfl, ← hst, hr]
 ·simp only [R_AddrOf_L3]
  rw [decide_eq_false (show ¬ ((wid v : Nat) : Int) < lenS s by unfold lenS; omega), br_false]
  have : accN v n (wid v - wid v) = ofNum v n := by
   unfold accN ofNum
   rw [Nat.sub_self, show max 0 64 = 64 from rfl, show (2 : Nat) ^ 64 = 18446744073709551616 from rfl, Nat.pow_zero, Nat.div_one]
  rw [this]
end Go.Ma
namespace Go.Ma
open Go
end Go.Ma
namespace Go.Ma
open Go
end Go.Ma
namespace Go.Ma
open Go
structure Good (p : Pf) (m : List Ls) : Prop where
 ins : lsIn m
 chk : ∀ x ∈ m, chkLs x = 0
 held : ∀ x ∈ m, holds p x.ad = true
 asc : m.Pairwise fun x y => rank x.ad < rank y.ad
 whos : m.Pairwise fun x y => x.who ≠ y.who
structure Given (p : Pf) (kp : List Ad) (l : List Ls) (who : ByteArray) (now u : Int) (m : List Ls) (a : Ad) : Prop where
 good : Good p m
 alive : ∀ x ∈ m, now ≤ x.upto
 mine : (⟨a, who, u⟩ : Ls) ∈ m
 others : ∀ x ∈ l, now ≤ x.upto → x.who ≠ who → x ∈ m
 fresh : (∀ x ∈ l, now ≤ x.upto → x.who ≠ who) → ∀ x ∈ kp, x ≠ a
end Go.Ma
namespace Go.Ma
open Go
end Go.Ma
namespace Go.Ma
open Go
end Go.Ma
namespace Go.Ma
open Go
end Go.Ma
namespace Go.Ma
open Go
section
variable {α A R : Type}
theorem idx_loop {step : (A → Option R) → A → Option R} (b : List α) (q : α → Bool) (mk : Nat → A) (out : Option Nat → R) (hlen : b.length < 9223372036854775808)
  (h : ∀ (rec : A → Option R) (i : Nat) (x : α), b[i]? = some x → i < b.length → step rec (mk i) = if q x then some (out (some i)) else rec (mk (i + 1)))
  (hend : ∀ rec : A → Option R, step rec (mk b.length) = some (out none)) : loopN step FUEL (mk 0) = some (out (firstF q b)) := by
 have := loop_up (step := step) mk b.length (fun i => some (out ((firstF q (b.drop i)).map (· + i)))) (fun rec i hi hr => ?_) (fun rec => ?_) FUEL 0 (Nat.zero_le _) (fuel_gt (by omega))
 ·rw [List.drop_zero, show (fun x => x + 0) = (id : Nat → Nat) from rfl, Option.map_id] at this
  exact this
 ·obtain ⟨e, he⟩ : ∃ e, b[i]? = some e := ⟨_, List.getElem?_eq_getElem hi⟩
  rw [h rec i e he hi, firstF_at he]
  cases q e
  ·rw [if_neg (by simp), if_neg (by simp), hr]
  ·rw [if_pos rfl, if_pos rfl]
 ·rw [hend, List.drop_of_length_le (Nat.le_refl _)]
  rfl
end
def pfIn (l : List Pf) : Prop := ∀ p ∈ l, p.In ∧ chkP p = 0
def meets (p q : Pf) : Bool := over p q || over q p
end Go.Ma
namespace Go.Ma
open Go
def kV (v : Bool) : Int := if v then 1 else 0
theorem ordA_key (a b : Ad) : (ordA a b < 0 ↔ kV a.v6 < kV b.v6 ∨ (kV a.v6 = kV b.v6 ∧ (a.hi < b.hi ∨ (a.hi = b.hi ∧ a.lo < b.lo)))) ∧ (ordA a b = 0 ↔ kV a.v6 = kV b.v6 ∧ a.hi = b.hi ∧ a.lo = b.lo) := by
 unfold ordA ordI kV
 cases a.v6 <;> cases b.v6 <;> simp <;> (by_cases h1 : a.hi = b.hi <;> simp [h1] <;> constructor <;> (repeat' split) <;> omega)
theorem kV_inj {v w : Bool} (h : kV v = kV w) : v = w := by cases v <;> cases w <;> first | rfl | (exact absurd h (by decide))
end Go.Ma
namespace Go.Ma
open Go
def apartP (p q : Pf) : Prop := ordP p q < 0 ∧ meets p q = false
def kpIn (ks : List (List Ad)) : Prop := ∀ k ∈ ks, adIn k
end Go.Ma
namespace Go.Ma
open Go
def toB (p : Pf) : Bk := ⟨p.ad.v6, free p, p.ad.num / 2 ^ free p⟩
def rtP (p : Pf) : Prop := p.In ∧ chkP p = 0
theorem toB_lo {p : Pf} (h : rtP p) : (toB p).lo = p.ad.num := by
 obtain ⟨_, h2, _⟩ := free_facts h.1 h.2
 have := Nat.div_add_mod p.ad.num (2 ^ free p)
 rw [h2, Nat.add_zero, Nat.mul_comm] at this
 exact this
theorem toB_hi {p : Pf} (h : rtP p) : (toB p).hi = p.ad.num + 2 ^ free p := by
 have h1 := toB_lo h
 unfold Bk.lo at h1
 unfold Bk.hi
 rw [Nat.add_mul, h1, Nat.one_mul]
 rfl
theorem holds_toB {p : Pf} (h : rtP p) {a : Ad} (ha : a.In) : holds p a = true ↔ (toB p).has a.v6 a.num := by
 rw [holds_span h.1 h.2 ha]
 unfold Bk.has
 rw [toB_lo h, toB_hi h]
 rfl
theorem free_bits {p : Pf} (h : chkP p = 0) : (free p : Int) = (wid p.ad.v6 : Nat) - p.bits := by
 obtain ⟨h1, h2⟩ := chkP_bits h
 unfold free
 omega
theorem toB_inj {p q : Pf} (hp : rtP p) (hq : rtP q) (h : toB p = toB q) : p = q := by
 have hv : p.ad.v6 = q.ad.v6 := congrArg Bk.v h
 have hf : free p = free q := congrArg Bk.f h
 have hn : p.ad.num = q.ad.num := by rw [← toB_lo hp, ← toB_lo hq, h]
 have ha : p.ad = q.ad := num_inj hp.1.1.wf hq.1.1.wf hv hn
 have h1 := free_bits hp.2
 have h2 := free_bits hq.2
 have hb : p.bits = q.bits := by rw [hf, h2, hv] at h1; omega
 obtain ⟨pa, pb⟩ := p
 obtain ⟨qa, qb⟩ := q
 simp only at ha hb
 rw [ha, hb]
theorem toB_over {p q : Pf} (hp : rtP p) (hq : rtP q) : over p q = overBk (toB p) (toB q) := by
 rw [Bool.eq_iff_iff, over_iff, holds_toB hp hq.1.1, overBk_iff]
 have h1 := free_bits hp.2
 have h2 := free_bits hq.2
 have hlo := toB_lo hq
 constructor
 ·rintro ⟨g1, g2, g3, g4⟩
  have hv : (toB p).v = (toB q).v := g2
  have hw : p.ad.v6 = q.ad.v6 := g2
  have hf : (toB q).f ≤ (toB p).f := by
   show free q ≤ free p
   rw [hw] at h1
   omega
  have := over_of_meet hv hf (n := q.ad.num) g3 g4 (by rw [hlo]; exact Nat.le_refl _) (by have := (toB q).lo_lt_hi; omega)
  exact overBk_iff.1 this
 ·rintro ⟨g1, g2, g3⟩
  have hw : p.ad.v6 = q.ad.v6 := g1
  have hf : free q ≤ free p := g2
  obtain ⟨_, r1, r2⟩ := overBk_range (overBk_iff.2 ⟨g1, g2, g3⟩)
  refine ⟨by rw [hw] at h1; omega, g1, by rw [hlo] at r1; exact r1, ?_⟩
  have := (toB q).lo_lt_hi
  omega
theorem toB_ord {p q : Pf} (hp : rtP p) (hq : rtP q) : ordP p q < 0 ↔ ordB (toB p) (toB q) := by
 have h1 := free_bits hp.2
 have h2 := free_bits hq.2
 obtain ⟨o1, o2⟩ := ord_rank hp.1.1 hq.1.1
 have n1 := num_lt hp.1.1
 have n2 := num_lt hq.1.1
 unfold ordB
 rw [toB_lo hp, toB_lo hq]
 show _ ↔ (p.ad.v6 = false ∧ q.ad.v6 = true) ∨ (p.ad.v6 = q.ad.v6 ∧ (p.ad.num < q.ad.num ∨ (p.ad.num = q.ad.num ∧ free q < free p)))
 unfold ordP
 by_cases h0 : ordA p.ad q.ad = 0
 ·rw [if_neg (fun hh => hh h0)]
  have hr := o2.1 h0
  unfold rank at hr
  cases hv : p.ad.v6 <;> cases hw : q.ad.v6 <;> rw [hv, hw] at hr <;> simp only [Bool.false_eq_true, if_false, if_true] at hr
  ·rw [hv] at h1; rw [hw] at h2
   constructor
   ·intro hb; exact .inr ⟨rfl, .inr ⟨by omega, by omega⟩⟩
   ·rintro (⟨_, hh⟩ | ⟨_, hh⟩)
    ·cases hh
    ·omega
  ·omega
  ·omega
  ·rw [hv] at h1; rw [hw] at h2
   constructor
   ·intro hb; exact .inr ⟨rfl, .inr ⟨by omega, by omega⟩⟩
   ·rintro (⟨hh, _⟩ | ⟨_, hh⟩)
    ·cases hh
    ·omega
 ·rw [if_pos h0, o1]
  have hr : rank p.ad ≠ rank q.ad := fun hh => h0 (o2.2 hh)
  unfold rank at hr ⊢
  cases hv : p.ad.v6 <;> cases hw : q.ad.v6 <;> rw [hv, hw] at hr <;> simp only [Bool.false_eq_true, if_false, if_true] at hr ⊢
  ·constructor
   ·intro hb; exact .inr ⟨trivial, .inl (by omega)⟩
   ·rintro (⟨_, hh⟩ | ⟨_, hh⟩)
    ·cases hh
    ·omega
  ·exact ⟨fun _ => by simp, fun _ => by omega⟩
  ·constructor
   ·intro hb; omega
   ·rintro (⟨hh, _⟩ | ⟨hh, _⟩)
    ·cases hh
    ·exact absurd hh (by simp)
  ·constructor
   ·intro hb; exact .inr ⟨trivial, .inl (by omega)⟩
   ·rintro (⟨hh, _⟩ | ⟨_, hh⟩)
    ·cases hh
    ·omega
end Go.Ma
namespace Go.Ma
open Go
def ofB (b : Bk) : Pf := ⟨ofNum b.v (b.k * 2 ^ b.f), ((wid b.v - b.f : Nat) : Int)⟩
def fitB (b : Bk) : Prop := b.f ≤ wid b.v ∧ b.hi ≤ 2 ^ wid b.v
theorem wid_top (v : Bool) : wid v ≤ 128 := by cases v <;> decide
theorem ofB_ok {b : Bk} (h : fitB b) : rtP (ofB b) ∧ toB (ofB b) = b := by
 obtain ⟨h1, h2⟩ := h
 have hw := wid_top b.v
 have hlt : b.k * 2 ^ b.f < 2 ^ wid b.v := Nat.lt_of_lt_of_le b.lo_lt_hi h2
 have hin : (ofNum b.v (b.k * 2 ^ b.f)).In := ofNum_inC hlt
 have hfr : free (ofB b) = b.f := by
  unfold free ofB
  show wid b.v - ((wid b.v - b.f : Nat) : Int).toNat = _
  rw [Int.toNat_natCast]; omega
 have hc : chkP (ofB b) = 0 := by
  unfold chkP
  have e1 : chkA (ofB b).ad = 0 := ofNum_chkC hlt
  have e2 : ¬ ((ofB b).bits < 0 ∨ (ofB b).bits > (wid (ofB b).ad.v6 : Nat)) := by
   show ¬ (((wid b.v - b.f : Nat) : Int) < 0 ∨ ((wid b.v - b.f : Nat) : Int) > (wid b.v : Nat))
   omega
  have e3 : cutA (ofB b).ad (ofB b).bits = (ofB b).ad := by
   have hw2 : (ofB b).ad.wf := hin.wf
   rw [cutA_iff hw2]
   refine (cutN_iff _ _).2 ?_
   show (ofNum b.v (b.k * 2 ^ b.f)).num % 2 ^ (free (ofB b)) = 0
   rw [hfr, num_ofNum, Nat.mul_mod_left]
  rw [if_neg (fun hh => hh e1), if_neg e2, if_neg (fun hh => hh e3)]
 refine ⟨⟨⟨hin, ?_⟩, hc⟩, ?_⟩
 ·show i64In ((wid b.v - b.f : Nat) : Int)
  constructor <;> omega
 ·unfold toB
  rw [hfr]
  have e : (ofB b).ad.num / 2 ^ b.f = b.k := by
   show (ofNum b.v (b.k * 2 ^ b.f)).num / 2 ^ b.f = b.k
   rw [num_ofNum, Nat.mul_div_cancel _ (Nat.two_pow_pos _)]
  rw [e]
  rfl
theorem toB_fit {p : Pf} (h : rtP p) : fitB (toB p) := by
 obtain ⟨f1, _, f3⟩ := free_facts h.1 h.2
 exact ⟨f1, by rw [toB_hi h]; exact f3⟩
theorem ofB_toB {p : Pf} (h : rtP p) : ofB (toB p) = p := toB_inj (ofB_ok (toB_fit h)).1 h (ofB_ok (toB_fit h)).2
def loB (b : Bk) : Bk := ⟨b.v, b.f - 1, 2 * b.k⟩
def hiB (b : Bk) : Bk := ⟨b.v, b.f - 1, 2 * b.k + 1⟩
theorem half_parts {b : Bk} (hf : 0 < b.f) : (loB b).lo = b.lo ∧ (loB b).hi = (hiB b).lo ∧ (hiB b).hi = b.hi := by
 obtain ⟨f, hfe⟩ : ∃ f, b.f = f + 1 := ⟨b.f - 1, by omega⟩
 unfold loB hiB Bk.lo Bk.hi
 simp only [hfe, Nat.add_sub_cancel]
 exact ⟨(dblA b.k f).symm, trivial, (dblB b.k f).symm⟩
theorem loB_fit {b : Bk} (h : fitB b) (hf : 0 < b.f) : fitB (loB b) := by
 obtain ⟨h1, h2⟩ := h
 obtain ⟨q1, q2, q3⟩ := half_parts hf
 have := (hiB b).lo_lt_hi
 exact ⟨by show b.f - 1 ≤ wid b.v; omega, by show (loB b).hi ≤ 2 ^ wid b.v; omega⟩
theorem hiB_fit {b : Bk} (h : fitB b) (hf : 0 < b.f) : fitB (hiB b) := by
 obtain ⟨h1, h2⟩ := h
 obtain ⟨q1, q2, q3⟩ := half_parts hf
 exact ⟨by show b.f - 1 ≤ wid b.v; omega, by show (hiB b).hi ≤ 2 ^ wid b.v; omega⟩
theorem split_eq {b : Bk} (h : fitB b) (hf : 0 < b.f) : splitF (ofB b) = some (ofB (loB b), ofB (hiB b), ()) := by
 have hl := loB_fit h hf
 obtain ⟨q1, q2, q3⟩ := half_parts hf
 have hw := wid_top b.v
 have e1 : (⟨(ofB b).ad, (ofB b).bits + 1⟩ : Pf) = ofB (loB b) := by
  unfold ofB
  have g1 : (loB b).k * 2 ^ (loB b).f = b.k * 2 ^ b.f := q1
  have g2 : ((wid b.v - b.f : Nat) : Int) + 1 = ((wid b.v - (b.f - 1) : Nat) : Int) := by have := h.1; omega
  simp only [g1, g2]
  rfl
 obtain ⟨r1, r2⟩ := ofB_ok hl
 have hlast := last_eq r1.1 r1.2
 obtain ⟨l1, l2⟩ := last_num r1.1 r1.2
 have hwf := (last_in r1.1 r1.2).1.wf
 have hnum : (lastA (ofB (loB b))).num + 1 = (hiB b).lo := by
  have g1 := toB_hi r1
  have g2 := toB_lo r1
  have hp := Nat.two_pow_pos (free (ofB (loB b)))
  rw [r2] at g1 g2
  rw [← q2, l1]
  omega
 have hv : (lastA (ofB (loB b))).v6 = b.v := l2
 have hlt : (lastA (ofB (loB b))).num + 1 < 2 ^ wid b.v := by
  have := (hiB b).lo_lt_hi
  have := h.2
  omega
 have e2 : addr_After_t (lastA (ofB (loB b))) = some (ofNum b.v (hiB b).lo, true, ()) := by
  have := addr_After_eq hlt
  rw [hnum, ← hv, ofNum_num _ hwf] at this
  rw [this, hv]
 unfold splitF
 rw [e1, hlast, bind_s, e2, bind_s, req_of (i64ok_of (by show -9223372036854775808 ≤ ((wid b.v - b.f : Nat) : Int) + 1; omega) (by show ((wid b.v - b.f : Nat) : Int) + 1 < 9223372036854775808; omega))]
 have e3 : (⟨ofNum b.v (hiB b).lo, (ofB b).bits + 1⟩ : Pf) = ofB (hiB b) := by
  unfold ofB
  have g2 : ((wid b.v - b.f : Nat) : Int) + 1 = ((wid b.v - (b.f - 1) : Nat) : Int) := by have := h.1; omega
  simp only [g2]
  rfl
 rw [e3]
theorem upB_fit {b : Bk} (h : fitB b) (hf : b.f < wid b.v) : fitB (upB b) := by
 obtain ⟨h1, h2⟩ := h
 refine ⟨by show b.f + 1 ≤ wid b.v; omega, ?_⟩
 obtain ⟨d, hd⟩ : ∃ d, wid b.v = b.f + 1 + d := ⟨wid b.v - (b.f + 1), by omega⟩
 unfold Bk.hi at h2
 unfold upB Bk.hi
 simp only
 have e1 : 2 ^ (b.f + 1 + d) = 2 ^ d * 2 ^ (b.f + 1) := by rw [Nat.pow_add, Nat.mul_comm]
 have e2 : 2 ^ d * 2 ^ (b.f + 1) = 2 ^ d * 2 * 2 ^ b.f := by rw [Nat.pow_succ, Nat.mul_comm (2 ^ b.f) 2, Nat.mul_assoc]
 rw [hd, e1] at h2 ⊢
 rw [e2] at h2
 have h3 : b.k + 1 ≤ 2 ^ d * 2 := Nat.le_of_mul_le_mul_right h2 (Nat.two_pow_pos b.f)
 exact Nat.mul_le_mul_right _ (by omega)
theorem join_eq {a b : Pf} (ha : rtP a) (hb : rtP b) : ∃ w, joinF a b = some (w, decide (sib (toB a) (toB b)), ()) ∧ (sib (toB a) (toB b) → w = ofB (upB (toB a)) ∧ fitB (upB (toB a))) := by
 have fa := free_bits ha.2
 have fb := free_bits hb.2
 obtain ⟨a0, a1⟩ := chkP_bits ha.2
 have hfa := toB_fit ha
 have hfb := toB_fit hb
 have hwa := wid_top a.ad.v6
 unfold joinF
 by_cases h0 : a.bits = 0
 ·have hs : ¬ sib (toB a) (toB b) := by
   rintro ⟨s1, s2, s3, s4⟩
   have e1 : free a = wid a.ad.v6 := by omega
   have h2 := hfb.2
   have hl : (toB b).lo = ((toB a).k + 1) * 2 ^ (wid a.ad.v6) := by
    unfold Bk.lo
    rw [s4, ← s2]
    show ((toB a).k + 1) * 2 ^ free a = _
    rw [e1]
   have hl2 := (toB b).lo_lt_hi
   rw [← s1] at h2
   have e2 : (toB a).v = a.ad.v6 := rfl
   rw [e2] at h2
   have : 1 * 2 ^ (wid a.ad.v6) ≤ ((toB a).k + 1) * 2 ^ (wid a.ad.v6) := Nat.mul_le_mul_right _ (by omega)
   omega
  refine ⟨⟨⟨false, 0, 0⟩, 0⟩, ?_, fun hh => absurd hh hs⟩
  rw [decide_eq_true h0, cond_true, br_true, decide_eq_false hs]
 rw [decide_eq_false h0, cond_false]
 by_cases h1 : a.bits = b.bits
 rotate_left
 ·have hs : ¬ sib (toB a) (toB b) := by
   rintro ⟨s1, s2, _, _⟩
   have s1 : a.ad.v6 = b.ad.v6 := s1
   have s2 : free a = free b := s2
   rw [s1] at fa
   omega
  refine ⟨⟨⟨false, 0, 0⟩, 0⟩, ?_, fun hh => absurd hh hs⟩
  rw [decide_eq_false h1, Bool.not_false, cond_true, br_true, decide_eq_false hs]
 rw [decide_eq_true h1, Bool.not_true, cond_false]
 by_cases hv : a.ad.v6 = b.ad.v6
 rotate_left
 ·have hs : ¬ sib (toB a) (toB b) := fun hh => hv hh.1
  refine ⟨⟨⟨false, 0, 0⟩, 0⟩, ?_, fun hh => absurd hh hs⟩
  have e : beqB a.ad.v6 b.ad.v6 = false := by
   cases hx : a.ad.v6 <;> cases hy : b.ad.v6 <;> first | rfl | (rw [hx, hy] at hv; exact absurd rfl hv)
  rw [e, Bool.not_false, br_true, decide_eq_false hs]
 rw [show beqB a.ad.v6 b.ad.v6 = true by rw [hv]; cases b.ad.v6 <;> rfl, Bool.not_true, br_false]
 have hflt : (toB a).f < wid (toB a).v := by show free a < wid a.ad.v6; omega
 have hup := upB_fit hfa hflt
 have hw : (⟨cutA a.ad (a.bits - 1), a.bits - 1⟩ : Pf) = ofB (upB (toB a)) := by
  have e1 : wid a.ad.v6 - (a.bits - 1).toNat = free a + 1 := by omega
  have e2 : a.bits - 1 = ((wid a.ad.v6 - (free a + 1) : Nat) : Int) := by omega
  have e3 : cutN a.ad.num (free a + 1) = (toB a).k / 2 * 2 ^ (free a + 1) := by
   unfold cutN toB
   simp only
   rw [Nat.div_div_eq_div_mul, ← Nat.pow_succ]
  unfold ofB cutA upB
  rw [e1, e3, e2]
  rfl
 have hcut := prefix_Cut_eq a.ad ha.1.1.wf (a.bits - 1) (by omega) (by omega)
 have hsp := split_eq hup (show 0 < (upB (toB a)).f from Nat.succ_pos _)
 rw [← hw] at hsp
 rw [req_of (i64ok_of (by omega) (by omega)), hcut, bind_s, hsp, bind_s]
 simp only [eqPf_eq]
 have hlo : loB (upB (toB a)) = ⟨(toB a).v, (toB a).f, 2 * ((toB a).k / 2)⟩ := rfl
 have hhi : hiB (upB (toB a)) = ⟨(toB a).v, (toB a).f, 2 * ((toB a).k / 2) + 1⟩ := rfl
 have fl := loB_fit hup (show 0 < (upB (toB a)).f from Nat.succ_pos _)
 have fh := hiB_fit hup (show 0 < (upB (toB a)).f from Nat.succ_pos _)
 have q1 : (ofB (loB (upB (toB a))) = a) ↔ (toB a).k % 2 = 0 := by
  constructor
  ·intro hh
   have e := (ofB_ok fl).2
   rw [hh, hlo] at e
   have := congrArg Bk.k e
   simp only at this
   omega
  ·intro hh
   refine toB_inj (ofB_ok fl).1 ha ?_
   rw [(ofB_ok fl).2, hlo, show 2 * ((toB a).k / 2) = (toB a).k by omega]
 have hvf : (toB b).v = (toB a).v ∧ (toB b).f = (toB a).f := ⟨hv.symm, by show free b = free a; rw [hv] at fa; omega⟩
 have q2 : (ofB (hiB (upB (toB a))) = b) ↔ (toB b).k = 2 * ((toB a).k / 2) + 1 := by
  constructor
  ·intro hh
   have e := (ofB_ok fh).2
   rw [hh, hhi] at e
   exact congrArg Bk.k e
  ·intro hh
   refine toB_inj (ofB_ok fh).1 hb ?_
   rw [(ofB_ok fh).2, hhi, ← hh, ← hvf.1, ← hvf.2]
 have hs : sib (toB a) (toB b) ↔ ofB (loB (upB (toB a))) = a ∧ ofB (hiB (upB (toB a))) = b := by
  rw [q1, q2]
  unfold sib
  rw [hvf.1, hvf.2]
  constructor
  ·rintro ⟨_, _, g1, g2⟩; exact ⟨g1, by omega⟩
  ·rintro ⟨g1, g2⟩; exact ⟨rfl, rfl, g1, by omega⟩
 refine ⟨_, ?_, fun _ => ⟨hw, hup⟩⟩
 by_cases g1 : ofB (loB (upB (toB a))) = a
 ·rw [decide_eq_true g1, br_true]
  have : decide (sib (toB a) (toB b)) = decide (ofB (hiB (upB (toB a))) = b) := decide_eq_decide.2 (by rw [hs]; exact ⟨fun h => h.2, fun h => ⟨g1, h⟩⟩)
  rw [this]
 ·have hns : ¬ sib (toB a) (toB b) := fun hh => g1 (hs.1 hh).1
  rw [decide_eq_false g1, br_false, decide_eq_false hns]
end Go.Ma
namespace Go.Ma
open Go
theorem Bk.has_lo (b : Bk) : b.has b.v b.lo := ⟨rfl, Nat.le_refl _, b.lo_lt_hi⟩
def meetBk (a b : Bk) : Bool := overBk a b || overBk b a
theorem over_has {a b : Bk} (h : overBk a b = true) {v : Bool} {n : Nat} (hn : b.has v n) : a.has v n := by
 obtain ⟨h1, h2, h3⟩ := overBk_range h
 obtain ⟨g1, g2, g3⟩ := hn
 exact ⟨h1.trans g1, by omega, by omega⟩
theorem meetBk_iff {a b : Bk} : meetBk a b = true ↔ ∃ v n, a.has v n ∧ b.has v n := by
 unfold meetBk
 rw [Bool.or_eq_true]
 constructor
 ·rintro (h | h)
  ·exact ⟨_, _, over_has h b.has_lo, b.has_lo⟩
  ·exact ⟨_, _, a.has_lo, over_has h a.has_lo⟩
 ·rintro ⟨v, n, ⟨a1, a2, a3⟩, b1, b2, b3⟩
  by_cases hf : b.f ≤ a.f
  ·exact .inl (over_of_meet (a1.trans b1.symm) hf a2 a3 b2 b3)
  ·exact .inr (over_of_meet (b1.trans a1.symm) (by omega) b2 b3 a2 a3)
def diffB (some others : List Bk) (v : Bool) (n : Nat) : Prop := covB some v n ∧ ¬ covB others v n
def nwB (v : Bool) (some others : List Bk) : Nat → Nat → List Bk
 | 0, K => if others.any (fun o => overBk o ⟨v, 0, K⟩) then [] else if some.all (fun s => !meetBk s ⟨v, 0, K⟩) then [] else [⟨v, 0, K⟩]
 | F + 1, K =>
  if others.any (fun o => overBk o ⟨v, F + 1, K⟩) then [] else if some.all (fun s => !meetBk s ⟨v, F + 1, K⟩) then []
  else if some.any (fun s => overBk s ⟨v, F + 1, K⟩) && others.all (fun o => !meetBk o ⟨v, F + 1, K⟩) then [⟨v, F + 1, K⟩]
  else if nwB v some others F (2 * K) = [⟨v, F, 2 * K⟩] ∧ nwB v some others F (2 * K + 1) = [⟨v, F, 2 * K + 1⟩] then [⟨v, F + 1, K⟩]
  else nwB v some others F (2 * K) ++ nwB v some others F (2 * K + 1)
theorem canon_f {v : Bool} {S : Nat → Prop} : ∀ {F K : Nat} {b : Bk}, b ∈ canon v S F K → b.f ≤ F
 | 0, K, b, h => by
  unfold canon at h
  split at h
  ·simp only [List.mem_singleton] at h; rw [h]; exact Nat.le_refl _
  ·cases h
 | F + 1, K, b, h => by
  unfold canon at h
  split at h
  ·simp only [List.mem_singleton] at h; rw [h]; exact Nat.le_refl _
  ·rcases List.mem_append.1 h with h | h
   ·have := canon_f h; omega
   ·have := canon_f h; omega
theorem canon_one {v : Bool} {S : Nat → Prop} : ∀ {F K : Nat}, canon v S F K = [⟨v, F, K⟩] → ∀ n, K * 2 ^ F ≤ n → n < (K + 1) * 2 ^ F → S n
 | 0, K, h, n, h1, h2 => by
  unfold canon at h
  split at h
  ·rename_i hs
   have : n = K := by simp at h1 h2; omega
   rw [this]; exact hs
  ·cases h
 | F + 1, K, h, n, h1, h2 => by
  unfold canon at h
  split at h
  ·rename_i hs; exact hs n h1 h2
  ·have hm : (⟨v, F + 1, K⟩ : Bk) ∈ canon v S F (2 * K) ++ canon v S F (2 * K + 1) := by rw [h]; simp
   rcases List.mem_append.1 hm with hm | hm
   ·have : F + 1 ≤ F := canon_f hm
    omega
   ·have : F + 1 ≤ F := canon_f hm
    omega
section
variable {v : Bool} {some others : List Bk}
theorem diff_cut {F K : Nat} (h : others.any (fun o => overBk o ⟨v, F, K⟩) = true) : ∀ n, K * 2 ^ F ≤ n → n < (K + 1) * 2 ^ F → ¬ diffB some others v n := by
 intro n h1 h2 hd
 obtain ⟨o, ho, hov⟩ := List.any_eq_true.1 h
 exact hd.2 ⟨o, ho, over_has hov (⟨rfl, h1, h2⟩ : Bk.has ⟨v, F, K⟩ v n)⟩
theorem diff_none {F K : Nat} (h : some.all (fun s => !meetBk s ⟨v, F, K⟩) = true) : ∀ n, K * 2 ^ F ≤ n → n < (K + 1) * 2 ^ F → ¬ diffB some others v n := by
 intro n h1 h2 hd
 obtain ⟨s, hs, hn⟩ := hd.1
 have := List.all_eq_true.1 h s hs
 rw [meetBk_iff.2 ⟨v, n, hn, (⟨rfl, h1, h2⟩ : Bk.has ⟨v, F, K⟩ v n)⟩] at this
 cases this
theorem diff_all {F K : Nat} (h : some.any (fun s => overBk s ⟨v, F, K⟩) = true) (h' : others.all (fun o => !meetBk o ⟨v, F, K⟩) = true) : ∀ n, K * 2 ^ F ≤ n → n < (K + 1) * 2 ^ F → diffB some others v n := by
 intro n h1 h2
 have hb : Bk.has ⟨v, F, K⟩ v n := ⟨rfl, h1, h2⟩
 obtain ⟨s, hs, hov⟩ := List.any_eq_true.1 h
 refine ⟨⟨s, hs, over_has hov hb⟩, ?_⟩
 rintro ⟨o, ho, hn⟩
 have := List.all_eq_true.1 h' o ho
 rw [meetBk_iff.2 ⟨v, n, hn, hb⟩] at this
 cases this
theorem nwB_canon : ∀ (F K : Nat), nwB v some others F K = canon v (diffB some others v) F K
 | 0, K => by
  unfold nwB
  by_cases h1 : others.any (fun o => overBk o ⟨v, 0, K⟩) = true
  ·rw [if_pos h1, canon_none (diff_cut h1)]
  rw [if_neg h1]
  by_cases h2 : some.all (fun s => !meetBk s ⟨v, 0, K⟩) = true
  ·rw [if_pos h2, canon_none (diff_none h2)]
  rw [if_neg h2]
  have one : ∀ {b : Bk}, meetBk b ⟨v, 0, K⟩ = true → overBk b ⟨v, 0, K⟩ = true := fun {b} hm => by
   obtain ⟨w, n, ⟨a1, a2, a3⟩, b1, b2, b3⟩ := meetBk_iff.1 hm
   exact over_of_meet (a1.trans b1.symm) (Nat.zero_le _) a2 a3 b2 b3
  refine (canon_all (diff_all ?_ ?_)).symm
  ·by_cases hx : some.any (fun s => overBk s ⟨v, 0, K⟩) = true
   ·exact hx
   ·exfalso
    refine h2 (List.all_eq_true.2 fun s hs => ?_)
    cases hm : meetBk s ⟨v, 0, K⟩
    ·rfl
    ·exact absurd (List.any_eq_true.2 ⟨s, hs, one hm⟩) hx
  ·refine List.all_eq_true.2 fun o ho => ?_
   cases hm : meetBk o ⟨v, 0, K⟩
   ·rfl
   ·exact absurd (List.any_eq_true.2 ⟨o, ho, one hm⟩) h1
 | F + 1, K => by
  unfold nwB
  by_cases h1 : others.any (fun o => overBk o ⟨v, F + 1, K⟩) = true
  ·rw [if_pos h1, canon_none (diff_cut h1)]
  rw [if_neg h1]
  by_cases h2 : some.all (fun s => !meetBk s ⟨v, F + 1, K⟩) = true
  ·rw [if_pos h2, canon_none (diff_none h2)]
  rw [if_neg h2]
  by_cases h3 : (some.any (fun s => overBk s ⟨v, F + 1, K⟩) && others.all (fun o => !meetBk o ⟨v, F + 1, K⟩)) = true
  ·rw [if_pos h3]
   rw [Bool.and_eq_true] at h3
   rw [canon_all (diff_all h3.1 h3.2)]
  rw [if_neg h3, nwB_canon F (2 * K), nwB_canon F (2 * K + 1)]
  by_cases h4 : canon v (diffB some others v) F (2 * K) = [⟨v, F, 2 * K⟩] ∧ canon v (diffB some others v) F (2 * K + 1) = [⟨v, F, 2 * K + 1⟩]
  ·rw [if_pos h4]
   refine (canon_all fun n g1 g2 => ?_).symm
   rw [dblA] at g1
   rw [dblB] at g2
   by_cases hn : n < (2 * K + 1) * 2 ^ F
   ·exact canon_one h4.1 n g1 hn
   ·exact canon_one h4.2 n (by omega) g2
  ·rw [if_neg h4]
   conv => rhs; unfold canon
   rw [if_neg]
   intro hall
   refine h4 ⟨canon_all fun n g1 g2 => hall n (by rw [dblA]; exact g1) (by rw [dblB]; exact Nat.lt_of_lt_of_le g2 (dblC K F)), canon_all fun n g1 g2 => hall n (by rw [dblA]; exact Nat.le_trans (dblD K F) g1) (by rw [dblB]; exact g2)⟩
end
end Go.Ma
namespace Go.Ma
open Go
noncomputable def normC (S : Bool → Nat → Prop) : List Bk := canon false (S false) 32 0 ++ canon true (S true) 128 0
theorem in_whole {b : Bk} (h : fitB b) : inB b.v (wid b.v) 0 b := by
 obtain ⟨h1, h2⟩ := h
 refine ⟨rfl, h1, ?_⟩
 obtain ⟨d, hd⟩ : ∃ d, wid b.v = b.f + d := ⟨wid b.v - b.f, by omega⟩
 rw [hd, show b.f + d - b.f = d by omega]
 unfold Bk.hi at h2
 rw [hd, Nat.pow_add, Nat.mul_comm (2 ^ b.f)] at h2
 have := Nat.le_of_mul_le_mul_right h2 (Nat.two_pow_pos b.f)
 exact Nat.div_eq_of_lt (by omega)
theorem norm_two {l : List Bk} (h : NormB l) (hf : ∀ b ∈ l, fitB b) {S : Bool → Nat → Prop} (hS : ∀ v n, n < 2 ^ wid v → (covB l v n ↔ S v n)) : l = normC S := by
 let p : Bk → Bool := fun b => !b.v
 have hsplit : l = l.filter p ++ l.filter (fun x => !p x) := filter_split p (by
  refine h.asc.imp ?_
  intro a b hab hpb
  rcases hab with ⟨p1, p2⟩ | ⟨p1, _⟩
  ·show (!a.v) = true; rw [p1]; rfl
  ·show (!a.v) = true; rw [p1]; exact hpb)
 have part : ∀ (v : Bool) (q : Bk → Bool), (∀ b, q b = true ↔ b.v = v) → l.filter q = canon v (S v) (wid v) 0 := by
  intro v q hq
  refine canon_uniq v (S v) (wid v) 0 _ (h.sub List.filter_sublist) (fun b hb => ?_) (fun n h1 h2 => ?_)
  ·obtain ⟨b1, b2⟩ := List.mem_filter.1 hb
   have := in_whole (hf b b1)
   rw [(hq b).1 b2] at this
   exact this
  ·rw [← hS v n (by simpa using h2)]
   constructor
   ·rintro ⟨b, hb, hh⟩; exact ⟨b, (List.mem_filter.1 hb).1, hh⟩
   ·rintro ⟨b, hb, hh⟩; exact ⟨b, List.mem_filter.2 ⟨hb, (hq b).2 hh.1⟩, hh⟩
 have e1 := part false p (fun b => by show (!b.v) = true ↔ _; cases b.v <;> simp)
 have e2 := part true (fun x => !p x) (fun b => by show (!(!b.v)) = true ↔ _; cases b.v <;> simp)
 rw [hsplit, e1, e2]
 rfl
theorem joinS_fit : ∀ {rs : List Bk} {p : Bk}, (∀ b ∈ rs, fitB b) → fitB p → ∀ b ∈ joinS rs p, fitB b
 | [], p, _, hp, b, hb => by
  unfold joinS at hb
  simp only [List.mem_singleton] at hb
  rw [hb]; exact hp
 | t :: r, p, hr, hp, b, hb => by
  unfold joinS at hb
  split at hb
  ·rename_i hs
   refine joinS_fit (fun x hx => hr x (List.mem_cons_of_mem _ hx)) ?_ b hb
   obtain ⟨q1, q2, q3⟩ := sib_parts hs
   have hv : p.v = t.v := hs.1.symm
   have h2 := hp.2
   rw [hv, ← q3] at h2
   refine ⟨?_, h2⟩
   show t.f + 1 ≤ wid t.v
   have h3 : 2 ^ (t.f + 1) ≤ 2 ^ wid t.v := by
    have h4 : (upB t).hi = (t.k / 2 + 1) * 2 ^ (t.f + 1) := rfl
    have h5 : 1 * 2 ^ (t.f + 1) ≤ (t.k / 2 + 1) * 2 ^ (t.f + 1) := Nat.mul_le_mul_right _ (by omega)
    have h6 : (upB t).hi ≤ 2 ^ wid t.v := h2
    omega
   exact (Nat.pow_le_pow_iff_right (by omega)).1 h3
  ·rcases List.mem_cons.1 hb with rfl | hb
   ·exact hp
   ·exact hr b hb
theorem putS_fit {rs : List Bk} {p : Bk} (hr : ∀ b ∈ rs, fitB b) (hp : fitB p) : ∀ b ∈ putS rs p, fitB b := by
 intro b hb
 unfold putS at hb
 split at hb
 ·simp only [List.mem_singleton] at hb; rw [hb]; exact hp
 ·split at hb
  ·exact hr b hb
  ·exact joinS_fit hr hp b hb
theorem shortS_fit {l : List Bk} (hl : ∀ b ∈ l, fitB b) : ∀ b ∈ shortS l, fitB b := by
 have key : ∀ (l rs : List Bk), (∀ b ∈ l, fitB b) → (∀ b ∈ rs, fitB b) → ∀ b ∈ l.foldl putS rs, fitB b := by
  intro l
  induction l with
  | nil => intro rs _ h; exact h
  | cons p r ih => intro rs h1 h2; exact ih _ (fun b hb => h1 b (List.mem_cons_of_mem _ hb)) (putS_fit h2 (h1 p List.mem_cons_self))
 intro b hb
 unfold shortS at hb
 exact key l [] hl (fun b hb => by cases hb) b (List.mem_reverse.1 hb)
theorem short_norm {l : List Bk} (hs : l.Pairwise fun a b => ¬ ordB b a) (hl : ∀ b ∈ l, fitB b) : shortS l = normC (covB l) := by
 obtain ⟨h1, h2⟩ := short_ok hs
 exact norm_two h1 (shortS_fit hl) fun v n _ => h2 v n
def restB (p : Bk) (v : Bool) : Nat → Nat → List Bk
 | 0, K => if overBk p ⟨v, 0, K⟩ = true then [] else [⟨v, 0, K⟩]
 | F + 1, K => if overBk p ⟨v, F + 1, K⟩ = true then [] else if overBk ⟨v, F + 1, K⟩ p = false then [⟨v, F + 1, K⟩] else restB p v F (2 * K) ++ restB p v F (2 * K + 1)
theorem covB_app {l m : List Bk} {v : Bool} {n : Nat} : covB (l ++ m) v n ↔ covB l v n ∨ covB m v n := by
 unfold covB
 constructor
 ·rintro ⟨b, hb, hh⟩
  rcases List.mem_append.1 hb with hb | hb
  ·exact .inl ⟨b, hb, hh⟩
  ·exact .inr ⟨b, hb, hh⟩
 ·rintro (⟨b, hb, hh⟩ | ⟨b, hb, hh⟩)
  ·exact ⟨b, List.mem_append_left _ hb, hh⟩
  ·exact ⟨b, List.mem_append_right _ hb, hh⟩
theorem covB_one {b : Bk} {v : Bool} {n : Nat} : covB [b] v n ↔ b.has v n := by simp [covB]
theorem no_meet {p b : Bk} (h1 : overBk p b = false) (h2 : overBk b p = false) {v : Bool} {n : Nat} (hb : b.has v n) : ¬ p.has v n := fun hp => by
 have : meetBk p b = true := meetBk_iff.2 ⟨v, n, hp, hb⟩
 unfold meetBk at this
 rw [h1, h2] at this
 cases this
theorem restB_cov (p : Bk) (v : Bool) : ∀ (F K : Nat) (w : Bool) (n : Nat), covB (restB p v F K) w n ↔ (Bk.has ⟨v, F, K⟩ w n ∧ ¬ p.has w n)
 | 0, K, w, n => by
  unfold restB
  by_cases h1 : overBk p ⟨v, 0, K⟩ = true
  ·rw [if_pos h1]
   refine ⟨fun hh => ?_, fun hh => absurd (over_has h1 hh.1) hh.2⟩
   obtain ⟨b, hb, _⟩ := hh
   cases hb
  ·rw [if_neg h1, covB_one]
   refine ⟨fun hh => ⟨hh, fun hp => h1 ?_⟩, fun hh => hh.1⟩
   obtain ⟨a1, a2, a3⟩ := hp
   obtain ⟨b1, b2, b3⟩ := hh
   exact over_of_meet (a1.trans b1.symm) (Nat.zero_le _) a2 a3 b2 b3
 | F + 1, K, w, n => by
  unfold restB
  by_cases h1 : overBk p ⟨v, F + 1, K⟩ = true
  ·rw [if_pos h1]
   refine ⟨fun hh => ?_, fun hh => absurd (over_has h1 hh.1) hh.2⟩
   obtain ⟨b, hb, _⟩ := hh
   cases hb
  rw [if_neg h1]
  by_cases h2 : overBk ⟨v, F + 1, K⟩ p = false
  ·rw [if_pos h2, covB_one]
   exact ⟨fun hh => ⟨hh, no_meet (by simpa using h1) h2 hh⟩, fun hh => hh.1⟩
  rw [if_neg h2, covB_app, restB_cov p v F (2 * K) w n, restB_cov p v F (2 * K + 1) w n]
  have e1 := dblA K F
  have e2 := dblB K F
  have e3 := dblC K F
  have e4 := dblD K F
  have hh : Bk.has ⟨v, F + 1, K⟩ w n ↔ (Bk.has ⟨v, F, 2 * K⟩ w n ∨ Bk.has ⟨v, F, 2 * K + 1⟩ w n) := by
   unfold Bk.has Bk.lo Bk.hi
   simp only
   rw [e1, e2]
   constructor
   ·rintro ⟨g1, g2, g3⟩
    by_cases hn : n < (2 * K + 1) * 2 ^ F
    ·exact .inl ⟨g1, g2, hn⟩
    ·exact .inr ⟨g1, by omega, g3⟩
   ·rintro (⟨g1, g2, g3⟩ | ⟨g1, g2, g3⟩)
    ·exact ⟨g1, g2, by omega⟩
    ·exact ⟨g1, by omega, g3⟩
  rw [hh]
  constructor
  ·rintro (⟨g1, g2⟩ | ⟨g1, g2⟩)
   ·exact ⟨.inl g1, g2⟩
   ·exact ⟨.inr g1, g2⟩
  ·rintro ⟨g1 | g1, g2⟩
   ·exact .inl ⟨g1, g2⟩
   ·exact .inr ⟨g1, g2⟩
theorem restB_fit (p : Bk) (v : Bool) : ∀ (F K : Nat), fitB ⟨v, F, K⟩ → ∀ b ∈ restB p v F K, fitB b
 | 0, K, h, b, hb => by
  unfold restB at hb
  split at hb
  ·cases hb
  ·simp only [List.mem_singleton] at hb; rw [hb]; exact h
 | F + 1, K, h, b, hb => by
  unfold restB at hb
  split at hb
  ·cases hb
  split at hb
  ·simp only [List.mem_singleton] at hb; rw [hb]; exact h
  rcases List.mem_append.1 hb with hb | hb
  ·exact restB_fit p v F (2 * K) (loB_fit h (Nat.succ_pos _)) b hb
  ·exact restB_fit p v F (2 * K + 1) (hiB_fit h (Nat.succ_pos _)) b hb
def lessB (p : Bk) (l : List Bk) : List Bk := l.flatMap fun b => restB p b.v b.f b.k
theorem lessB_cov (p : Bk) (l : List Bk) (v : Bool) (n : Nat) : covB (lessB p l) v n ↔ (covB l v n ∧ ¬ p.has v n) := by
 unfold lessB
 constructor
 ·rintro ⟨b, hb, hh⟩
  obtain ⟨c, hc, hb⟩ := List.mem_flatMap.1 hb
  have := (restB_cov p c.v c.f c.k v n).1 ⟨b, hb, hh⟩
  exact ⟨⟨c, hc, this.1⟩, this.2⟩
 ·rintro ⟨⟨c, hc, hh⟩, hp⟩
  obtain ⟨b, hb, hb2⟩ := (restB_cov p c.v c.f c.k v n).2 ⟨hh, hp⟩
  exact ⟨b, List.mem_flatMap.2 ⟨c, hc, hb⟩, hb2⟩
theorem lessB_fit (p : Bk) {l : List Bk} (hl : ∀ b ∈ l, fitB b) : ∀ b ∈ lessB p l, fitB b := by
 intro b hb
 obtain ⟨c, hc, hb⟩ := List.mem_flatMap.1 hb
 exact restB_fit p c.v c.f c.k (hl c hc) b hb
end Go.Ma
namespace Go.Ma
open Go
def firstB (used : List Bk) (v : Bool) (t : Nat) : Nat → Nat → Option Bk
 | 0, K => if used.any (fun o => overBk o ⟨v, 0, K⟩) then none else if used.all (fun o => !meetBk o ⟨v, 0, K⟩) then some ⟨v, t, K * 2 ^ (0 - t)⟩ else none
 | F + 1, K =>
  if used.any (fun o => overBk o ⟨v, F + 1, K⟩) then none else if used.all (fun o => !meetBk o ⟨v, F + 1, K⟩) then some ⟨v, t, K * 2 ^ (F + 1 - t)⟩
  else if F + 1 = t then none else (firstB used v t F (2 * K)).or (firstB used v t F (2 * K + 1))
def partB (v : Bool) (t : Nat) (b : Bk) : Bk := ⟨v, t, b.k * 2 ^ (b.f - t)⟩
section
variable {used : List Bk} {v : Bool} {t : Nat}
theorem free_cut {F K : Nat} (h : used.any (fun o => overBk o ⟨v, F, K⟩) = true) : ∀ n, K * 2 ^ F ≤ n → n < (K + 1) * 2 ^ F → ¬ ¬ covB used v n := by
 intro n h1 h2 hd
 obtain ⟨o, ho, hov⟩ := List.any_eq_true.1 h
 exact hd ⟨o, ho, over_has hov (⟨rfl, h1, h2⟩ : Bk.has ⟨v, F, K⟩ v n)⟩
theorem free_all {F K : Nat} (h : used.all (fun o => !meetBk o ⟨v, F, K⟩) = true) : ∀ n, K * 2 ^ F ≤ n → n < (K + 1) * 2 ^ F → ¬ covB used v n := by
 rintro n h1 h2 ⟨o, ho, hn⟩
 have := List.all_eq_true.1 h o ho
 rw [meetBk_iff.2 ⟨v, n, hn, (⟨rfl, h1, h2⟩ : Bk.has ⟨v, F, K⟩ v n)⟩] at this
 cases this
theorem free_not {F K : Nat} (h : ¬ used.all (fun o => !meetBk o ⟨v, F, K⟩) = true) : ¬ ∀ n, K * 2 ^ F ≤ n → n < (K + 1) * 2 ^ F → ¬ covB used v n := by
 intro hall
 refine h (List.all_eq_true.2 fun o ho => ?_)
 cases hm : meetBk o ⟨v, F, K⟩
 ·rfl
 ·exfalso
  obtain ⟨w, n, hn, b1, b2, b3⟩ := meetBk_iff.1 hm
  have b1 : v = w := b1
  subst b1
  exact hall n b2 b3 ⟨o, ho, hn⟩
theorem firstB_canon : ∀ (F K : Nat), t ≤ F → firstB used v t F K = ((canon v (fun n => ¬ covB used v n) F K).find? (fun b => decide (t ≤ b.f))).map (partB v t)
 | 0, K, ht => by
  unfold firstB
  by_cases h1 : used.any (fun o => overBk o ⟨v, 0, K⟩) = true
  ·rw [if_pos h1, canon_none (free_cut h1)]; rfl
  rw [if_neg h1]
  by_cases h2 : used.all (fun o => !meetBk o ⟨v, 0, K⟩) = true
  ·rw [if_pos h2, canon_all (free_all h2)]
   simp only [List.find?, decide_eq_true ht]
   rfl
  ·exfalso
   refine h2 (List.all_eq_true.2 fun o ho => ?_)
   cases hm : meetBk o ⟨v, 0, K⟩
   ·rfl
   ·exfalso
    obtain ⟨w, n, ⟨a1, a2, a3⟩, b1, b2, b3⟩ := meetBk_iff.1 hm
    exact h1 (List.any_eq_true.2 ⟨o, ho, over_of_meet (a1.trans b1.symm) (Nat.zero_le _) a2 a3 b2 b3⟩)
 | F + 1, K, ht => by
  unfold firstB
  by_cases h1 : used.any (fun o => overBk o ⟨v, F + 1, K⟩) = true
  ·rw [if_pos h1, canon_none (free_cut h1)]; rfl
  rw [if_neg h1]
  by_cases h2 : used.all (fun o => !meetBk o ⟨v, F + 1, K⟩) = true
  ·rw [if_pos h2, canon_all (free_all h2)]
   simp only [List.find?, decide_eq_true ht]
   rfl
  rw [if_neg h2]
  have hno := free_not h2
  conv => rhs; unfold canon
  rw [if_neg hno]
  by_cases h3 : F + 1 = t
  ·rw [if_pos h3]
   have : (canon v (fun n => ¬ covB used v n) F (2 * K) ++ canon v (fun n => ¬ covB used v n) F (2 * K + 1)).find? (fun b => decide (t ≤ b.f)) = none := by
    refine List.find?_eq_none.2 fun b hb => ?_
    have hbf : b.f ≤ F := by
     rcases List.mem_append.1 hb with hb | hb
     ·exact canon_f hb
     ·exact canon_f hb
    simp only [decide_eq_true_eq]
    omega
   rw [this]
   rfl
  ·rw [if_neg h3, firstB_canon F (2 * K) (by omega), firstB_canon F (2 * K + 1) (by omega), List.find?_append]
   cases (canon v (fun n => ¬ covB used v n) F (2 * K)).find? (fun b => decide (t ≤ b.f)) <;> rfl
end
end Go.Ma
namespace Go.Ma
open Go
end Go.Ma
namespace Go.Ma
open Go
structure StOk (ps : List Pf) (ks : List (List Ad)) (ls : List Ls) (now : Int) : Prop where
 pin : pfIn ps
 kin : kpIn ks
 lin : lsIn ls
 klen : ks.length = ps.length
 plen : ps.length ≤ 3
 pool : ∀ (i : Nat) (p : Pf), ps[i]? = some p → chkPool p (ks.getD i []) = 0
 pair : ps.Pairwise apartP
 time : betw now 0 9999 = true
 all : allC ls now = 0
 has : ∀ x ∈ ls, ∃ p ∈ ps, holds p x.ad = true
 upto : ∀ x ∈ ls, now ≤ x.upto
 who : ls.Pairwise fun x y => x.who ≠ y.who
end Go.Ma
namespace Go.Ma
open Go
theorem ordA_eq0 {a b : Ad} : ordA a b = 0 ↔ a = b := by
 constructor
 ·intro h
  obtain ⟨h1, h2, h3⟩ := (ordA_key a b).2.1 h
  have h1 := kV_inj h1
  obtain ⟨av, ah, al⟩ := a
  obtain ⟨bv, bh, bl⟩ := b
  simp only at h1 h2 h3
  rw [h1, h2, h3]
 ·rintro rfl
  exact (ordA_key a a).2.2 ⟨rfl, rfl, rfl⟩
section
variable {A R α : Type}
end
end Go.Ma
namespace Go.Ma
open Go
end Go.Ma
namespace Go.Ma
open Go
end Go.Ma
namespace Go.Ma
open Go
theorem adLt_ord (a b : Ad) : adLt a b = decide (ordA a b < 0) := by
 rw [Bool.eq_iff_iff, adLt_iff, decide_eq_true_iff, (ordA_key a b).1]
 unfold kV
 cases a.v6 <;> cases b.v6 <;> simp
end Go.Ma
namespace Go.Ma
open Go
theorem pfLt_ord (p q : Pf) : pfLt p q = decide (ordP p q < 0) := by
 unfold pfLt ordP
 rw [adLt_ord]
 by_cases h : ordA p.ad q.ad = 0
 ·have e : p.ad = q.ad := ordA_eq0.1 h
  rw [if_neg (fun hh => hh h), decide_eq_false (show ¬ ordA p.ad q.ad < 0 by omega), Bool.false_or, decide_eq_true e, Bool.true_and, decide_eq_decide]
  omega
 ·have e : p.ad ≠ q.ad := fun e => h (ordA_eq0.2 e)
  rw [if_pos h, decide_eq_false e, Bool.false_and, Bool.or_false]
theorem sortP_right {l : List Pf} (h : ∀ p ∈ l, rtP p) : ∀ p ∈ sortP l, rtP p := fun p hp => h p ((sortP_perm l).mem_iff.1 hp)
theorem sortP_rise {l : List Pf} (h : ∀ p ∈ l, rtP p) : ((sortP l).map toB).Pairwise fun a b => ¬ ordB b a := by
 refine List.pairwise_map.2 (List.Pairwise.imp_of_mem (fun {a b} ha hb hab => ?_) (sortP_pw l))
 rw [← toB_ord (sortP_right h b hb) (sortP_right h a ha)]
 have hab : pfLt b a = false := hab
 rw [pfLt_ord, decide_eq_false_iff_not] at hab
 exact hab
theorem fits_of {l : List Pf} (h : ∀ p ∈ l, rtP p) : ∀ b ∈ l.map toB, fitB b := fun b hb => by
 obtain ⟨p, hp, rfl⟩ := List.mem_map.1 hb
 exact toB_fit (h p hp)
theorem covB_perm {l m : List Bk} (h : l.Perm m) (v : Bool) (n : Nat) : covB l v n ↔ covB m v n := by
 unfold covB
 constructor
 ·rintro ⟨b, hb, hh⟩; exact ⟨b, h.mem_iff.1 hb, hh⟩
 ·rintro ⟨b, hb, hh⟩; exact ⟨b, h.mem_iff.2 hb, hh⟩
theorem normC_congr {S T : Bool → Nat → Prop} (h : ∀ v n, n < 2 ^ wid v → (S v n ↔ T v n)) : normC S = normC T := by
 unfold normC
 rw [canon_congr (v := false) (S := S false) (T := T false) fun n _ h2 => h false n (by rw [Nat.zero_add, Nat.one_mul] at h2; exact h2), canon_congr (v := true) (S := S true) (T := T true) fun n _ h2 => h true n (by rw [Nat.zero_add, Nat.one_mul] at h2; exact h2)]
theorem short_P {l : List Pf} (h : ∀ p ∈ l, rtP p) : shortS ((sortP l).map toB) = normC (covB (l.map toB)) := by
 rw [short_norm (sortP_rise h) (fits_of (sortP_right h))]
 exact normC_congr fun v n _ => covB_perm ((sortP_perm l).map toB) v n
end Go.Ma
namespace Go.Ma
open Go
theorem canon_v {v : Bool} {S : Nat → Prop} : ∀ {F K : Nat} {b : Bk}, b ∈ canon v S F K → b.v = v
 | 0, K, b, h => by
  unfold canon at h
  split at h
  ·simp only [List.mem_singleton] at h; rw [h]
  ·cases h
 | F + 1, K, b, h => by
  unfold canon at h
  split at h
  ·simp only [List.mem_singleton] at h; rw [h]
  ·rcases List.mem_append.1 h with h | h
   ·exact canon_v h
   ·exact canon_v h
theorem canon_in {v : Bool} {S : Nat → Prop} : ∀ {F K : Nat} {b : Bk}, b ∈ canon v S F K → K * 2 ^ F ≤ b.lo ∧ b.hi ≤ (K + 1) * 2 ^ F
 | 0, K, b, h => by
  unfold canon at h
  split at h
  ·simp only [List.mem_singleton] at h; rw [h]; exact ⟨Nat.le_refl _, Nat.le_refl _⟩
  ·cases h
 | F + 1, K, b, h => by
  unfold canon at h
  have e1 := dblA K F
  have e2 := dblB K F
  have e3 := dblC K F
  have e4 := dblD K F
  split at h
  ·simp only [List.mem_singleton] at h; rw [h]; exact ⟨Nat.le_refl _, Nat.le_refl _⟩
  ·rcases List.mem_append.1 h with h | h
   ·obtain ⟨g1, g2⟩ := canon_in h; omega
   ·obtain ⟨g1, g2⟩ := canon_in h; omega
theorem canon_cov {v : Bool} {S : Nat → Prop} : ∀ {F K : Nat} {n : Nat}, K * 2 ^ F ≤ n → n < (K + 1) * 2 ^ F → (covB (canon v S F K) v n ↔ S n)
 | 0, K, n, h1, h2 => by
  have e : n = K := by simp at h1 h2; omega
  unfold canon
  split
  ·rename_i hs
   rw [covB_one, e]
   exact ⟨fun _ => hs, fun _ => ⟨rfl, by unfold Bk.lo; simp, by unfold Bk.hi; simp⟩⟩
  ·rename_i hs
   rw [e]
   exact ⟨fun ⟨b, hb, _⟩ => (by cases hb), fun h => absurd h hs⟩
 | F + 1, K, n, h1, h2 => by
  unfold canon
  split
  ·rename_i hs
   rw [covB_one]
   exact ⟨fun _ => hs n h1 h2, fun _ => ⟨rfl, h1, h2⟩⟩
  ·rw [covB_app]
   rw [dblA] at h1
   rw [dblB] at h2
   by_cases hn : n < (2 * K + 1) * 2 ^ F
   ·rw [canon_cov h1 hn]
    refine ⟨fun h => h.elim id fun ⟨b, hb, hh⟩ => ?_, .inl⟩
    have := (canon_in hb).1
    have := hh.2.1
    omega
   ·rw [canon_cov (F := F) (K := 2 * K + 1) (by omega) h2]
    refine ⟨fun h => h.elim (fun ⟨b, hb, hh⟩ => ?_) id, .inr⟩
    have := (canon_in hb).2
    have := hh.2.2
    omega
theorem normC_fit {S : Bool → Nat → Prop} : ∀ b ∈ normC S, fitB b := fun b hb => by
 rcases List.mem_append.1 hb with hb | hb
 ·have h1 := canon_v hb
  have h2 := canon_f hb
  have h3 := (canon_in hb).2
  rw [Nat.zero_add, Nat.one_mul] at h3
  exact ⟨by rw [h1]; exact h2, by rw [h1]; exact h3⟩
 ·have h1 := canon_v hb
  have h2 := canon_f hb
  have h3 := (canon_in hb).2
  rw [Nat.zero_add, Nat.one_mul] at h3
  exact ⟨by rw [h1]; exact h2, by rw [h1]; exact h3⟩
theorem normC_cov {S : Bool → Nat → Prop} {v : Bool} {n : Nat} (hn : n < 2 ^ wid v) : covB (normC S) v n ↔ S v n := by
 have other : ∀ {w u : Bool} {F K : Nat} {T : Nat → Prop}, w ≠ u → ¬ covB (canon w T F K) u n := fun hw ⟨b, hb, hh⟩ => hw ((canon_v hb).symm.trans hh.1)
 unfold normC
 rw [covB_app]
 cases v
 ·rw [canon_cov (F := 32) (K := 0) (by simp) (by rw [Nat.zero_add, Nat.one_mul]; exact hn)]
  exact ⟨fun h => h.elim id fun h => absurd h (other (by simp)), .inl⟩
 ·rw [canon_cov (F := 128) (K := 0) (by simp) (by rw [Nat.zero_add, Nat.one_mul]; exact hn)]
  exact ⟨fun h => h.elim (fun h => absurd h (other (by simp))) id, .inr⟩
theorem nw_norm (some others : List Bk) : nwB false some others 32 0 ++ nwB true some others 128 0 = normC (diffB some others) := by
 rw [nwB_canon, nwB_canon]
 rfl
theorem less_norm {m : List Pf} (hm : ∀ p ∈ m, rtP p) {p : Bk} {l : List Bk} (he : m.map toB = lessB p l) : shortS ((sortP m).map toB) = normC (diffB l [p]) := by
 rw [short_P hm, he]
 refine normC_congr fun v n _ => ?_
 rw [lessB_cov]
 unfold diffB
 rw [covB_one]
theorem ofB_right {l : List Bk} (h : ∀ b ∈ l, fitB b) : ∀ p ∈ l.map ofB, rtP p := fun p hp => by
 obtain ⟨b, hb, rfl⟩ := List.mem_map.1 hp
 exact (ofB_ok (h b hb)).1
theorem toB_ofB_map {l : List Bk} (h : ∀ b ∈ l, fitB b) : (l.map ofB).map toB = l := by
 rw [List.map_map]
 have : ∀ b ∈ l, (toB ∘ ofB) b = id b := fun b hb => (ofB_ok (h b hb)).2
 rw [List.map_congr_left this, List.map_id]
end Go.Ma
namespace Go.Ma
open Go
theorem one_norm {b : Bk} (h : fitB b) : [b] = normC (covB [b]) :=
 norm_two ⟨List.pairwise_singleton _ _, fun x hx y hy => by
  simp only [List.mem_singleton] at hx hy
  subst hx hy
  rintro ⟨_, _, _, h4⟩
  omega⟩ (fun x hx => by simp only [List.mem_singleton] at hx; rw [hx]; exact h) fun _ _ _ => Iff.rfl
theorem canon_norm {v : Bool} {S : Nat → Prop} : ∀ {F K : Nat}, NormB (canon v S F K)
 | 0, K => by
  unfold canon
  split
  ·refine ⟨List.pairwise_singleton _ _, fun x hx y hy => ?_⟩
   simp only [List.mem_singleton] at hx hy
   subst hx hy
   rintro ⟨_, _, _, h4⟩
   omega
  ·exact ⟨List.Pairwise.nil, fun x hx => by cases hx⟩
 | F + 1, K => by
  by_cases hall : ∀ n, K * 2 ^ (F + 1) ≤ n → n < (K + 1) * 2 ^ (F + 1) → S n
  ·rw [canon_all hall]
   refine ⟨List.pairwise_singleton _ _, fun x hx y hy => ?_⟩
   simp only [List.mem_singleton] at hx hy
   subst hx hy
   rintro ⟨_, _, _, h4⟩
   omega
  have e : canon v S (F + 1) K = canon v S F (2 * K) ++ canon v S F (2 * K + 1) := by
   conv => lhs; unfold canon
   rw [if_neg hall]
  have hl := canon_norm (v := v) (S := S) (F := F) (K := 2 * K)
  have hr := canon_norm (v := v) (S := S) (F := F) (K := 2 * K + 1)
  have e1 := dblA K F
  have e2 := dblB K F
  rw [e]
  refine ⟨List.pairwise_append.2 ⟨hl.asc, hr.asc, fun a ha b hb => ?_⟩, fun a ha b hb hs => ?_⟩
  ·exact .inr ⟨(canon_v ha).trans (canon_v hb).symm, Nat.le_trans (canon_in ha).2 (canon_in hb).1⟩
  ·obtain ⟨_, q2, _⟩ := sib_parts hs
   have qa := a.lo_lt_hi
   have qb := b.lo_lt_hi
   rcases List.mem_append.1 ha with ha | ha <;> rcases List.mem_append.1 hb with hb | hb
   ·exact hl.nos a ha b hb hs
   · -- halves that meet at the middle: both are whole
    have a1 := (canon_in ha).2
    have b1 := (canon_in hb).1
    obtain ⟨s1, s2, s3, s4⟩ := hs
    have hmid : a.hi = (2 * K + 1) * 2 ^ F := by omega
    have haf := canon_f ha
    have h5 : (a.k + 1) * 2 ^ a.f = (2 * K + 1) * 2 ^ F := hmid
    obtain ⟨d, hd⟩ : ∃ d, F = a.f + d := ⟨F - a.f, by omega⟩
    rw [hd, Nat.pow_add, Nat.mul_comm (2 ^ a.f) (2 ^ d), ← Nat.mul_assoc] at h5
    have h6 : a.k + 1 = (2 * K + 1) * 2 ^ d := Nat.eq_of_mul_eq_mul_right (Nat.two_pow_pos a.f) h5
    cases d with
    | succ d =>
     rw [Nat.pow_succ, ← Nat.mul_assoc] at h6
     omega
    | zero =>
     have hf : a.f = F := by omega
     have hak : a.k = 2 * K := by simp at h6; omega
     have ea : a = ⟨v, F, 2 * K⟩ := by
      have := canon_v ha
      obtain ⟨av, af, ak⟩ := a
      simp only at this hf hak
      rw [this, hf, hak]
     have eb : b = ⟨v, F, 2 * K + 1⟩ := by
      have := canon_v hb
      obtain ⟨bv, bf, bk⟩ := b
      simp only at this s2 s4
      rw [this, ← s2, hf, s4, hak]
     rw [ea] at ha
     rw [eb] at hb
     refine hall fun n g1 g2 => ?_
     rw [e1] at g1
     rw [e2] at g2
     by_cases hn : n < (2 * K + 1) * 2 ^ F
     ·exact (canon_cov g1 hn).1 ⟨_, ha, rfl, g1, hn⟩
     ·exact (canon_cov (F := F) (K := 2 * K + 1) (by omega) g2).1 ⟨_, hb, rfl, by show (2 * K + 1) * 2 ^ F ≤ n; omega, g2⟩
   ·have a1 := (canon_in ha).1
    have b1 := (canon_in hb).2
    omega
   ·exact hr.nos a ha b hb hs
theorem norm_within {b : Bk} (h : fitB b) {S : Bool → Nat → Prop} (hS : ∀ v n, S v n → b.has v n) : normC S = canon b.v (S b.v) b.f b.k := by
 have hfit := normC_fit (S := S)
 have hn : NormB (canon b.v (S b.v) b.f b.k) ∧ ∀ x ∈ canon b.v (S b.v) b.f b.k, fitB x := ⟨canon_norm, fun x hx => by
  have h1 := canon_v hx
  have h2 := canon_f hx
  have h3 := (canon_in hx).2
  have h4 := h.1
  have h5 : (b.k + 1) * 2 ^ b.f ≤ 2 ^ wid b.v := h.2
  exact ⟨by rw [h1]; omega, by rw [h1]; omega⟩⟩
 refine (norm_two hn.1 hn.2 fun v n hv => ?_).symm
 constructor
 ·rintro ⟨x, hx, hh⟩
  have h1 := canon_v hx
  have hv : v = b.v := hh.1.symm.trans h1
  subst hv
  obtain ⟨g1, g2⟩ := canon_in hx
  exact (canon_cov (by have := hh.2.1; omega) (by have := hh.2.2; omega)).1 ⟨x, hx, hh⟩
 ·intro hs
  obtain ⟨g1, g2, g3⟩ := hS v n hs
  subst g1
  exact (canon_cov g2 g3).2 hs
end Go.Ma
namespace Go.Ma
open Go
def firstBad : List Pf → Int
 | [] => 0
 | p :: r => if chkP p ≠ 0 then chkP p else firstBad r
def chkL (l : List Pf) : Int := if 12 < l.length then 2 else firstBad l
theorem firstBad_ok : ∀ {l : List Pf}, firstBad l = 0 → ∀ p ∈ l, chkP p = 0
 | [], _, p, hp => by cases hp
 | q :: r, h, p, hp => by
  unfold firstBad at h
  split at h
  ·rename_i h1; exact absurd h h1
  rename_i h1
  rcases List.mem_cons.1 hp with rfl | hp
  ·exact Decidable.not_not.1 h1
  ·exact firstBad_ok h p hp
theorem chkL_ok {l : List Pf} (hin : tabIn l) (h : chkL l = 0) : l.length ≤ 12 ∧ ∀ p ∈ l, rtP p := by
 unfold chkL at h
 split at h
 ·cases h
 ·rename_i h1
  exact ⟨by omega, fun p hp => ⟨hin p hp, firstBad_ok h p hp⟩⟩
theorem drop_bad {l : List Pf} {i : Nat} {p : Pf} (h : l[i]? = some p) : firstBad (l.drop i) = if chkP p ≠ 0 then chkP p else firstBad (l.drop (i + 1)) := by
 rw [drop_cons h]
 rfl
def badOut (l : List Pf) (e : Int) : (((Int × Unit) × Unit) × (List Pf × Unit)) ⊕ (Unit × (List Pf × Unit)) := if e ≠ 0 then Sum.inl (((e, ()), ()), (l, ())) else Sum.inr ((), (l, ()))
theorem span_Right_eq {l : List Pf} (h : tabIn l) : span_Right_t l = some (chkL l, ()) := by
 unfold span_Right_t chkL
 by_cases hl : 12 < l.length
 ·rw [decide_eq_true (show lenL l > 12 by unfold lenL; omega), br_true, if_pos hl]
 rw [decide_eq_false (show ¬ lenL l > 12 by unfold lenL; omega), br_false, if_neg hl]
 have hloop : loopN span_Right_L4 FUEL (((), (lenL l, ()), (0, ()), ()), (l, ())) = some (badOut l (firstBad (l.drop 0))) := by
  refine loop_up (step := span_Right_L4) (fun i => (((), (lenL l, ()), ((i : Int), ()), ()), (l, ()))) l.length (fun i => some (badOut l (firstBad (l.drop i)))) (fun rec i hi hr => ?_) (fun rec => ?_) FUEL 0 (Nat.zero_le _) (fuel_gt (by omega))
  ·obtain ⟨p, hp⟩ : ∃ e, l[i]? = some e := ⟨_, List.getElem?_eq_getElem hi⟩
   simp only [span_Right_L4]
   rw [decide_eq_true (show (i : Int) < lenL l by unfold lenL; omega), br_true, req_of (inRange_of (by omega) (by unfold lenL; omega)), geti_at hp, bind_s, prefix_Check_eq (h p (List.mem_of_getElem? hp)), bind_s, drop_bad hp]
   by_cases hc : chkP p = 0
   ·rw [decide_eq_true (show (chkP p, ()).1 = 0 from hc), Bool.not_true, br_false, if_neg (fun hh => hh hc), show ((i : Int) + 1) = ((i + 1 : Nat) : Int) by omega, req_of (i64ok_of (by omega) (by omega)), hr]
   ·rw [decide_eq_false (show ¬ (chkP p, ()).1 = 0 from hc), Bool.not_false, br_true, if_pos hc]
    unfold badOut
    rw [if_pos hc]
  ·simp only [span_Right_L4]
   rw [decide_eq_false (show ¬ (l.length : Int) < lenL l by unfold lenL; omega), br_false, List.drop_of_length_le (Nat.le_refl _)]
   rfl
 rw [hloop, bind_s, List.drop_zero]
 unfold badOut
 by_cases hb : firstBad l = 0
 ·rw [if_neg (fun hh => hh hb), hb]
  rfl
 ·rw [if_pos hb]
  rfl
theorem R_CheckList_eq {l : List Pf} (h : tabIn l) : R_CheckList_t l = some (chkL l, ()) := by
 unfold R_CheckList_t chkL
 by_cases hl : 12 < l.length
 ·rw [decide_eq_true (show lenL l > 12 by unfold lenL; omega), br_true, if_pos hl]
 rw [decide_eq_false (show ¬ lenL l > 12 by unfold lenL; omega), br_false, if_neg hl]
 have hloop : loopN R_CheckList_L4 FUEL (((), (0, ()), ()), (l, ())) = some (badOut l (firstBad (l.drop 0))) := by
  refine loop_up (step := R_CheckList_L4) (fun i => (((), ((i : Int), ()), ()), (l, ()))) l.length (fun i => some (badOut l (firstBad (l.drop i)))) (fun rec i hi hr => ?_) (fun rec => ?_) FUEL 0 (Nat.zero_le _) (fuel_gt (by omega))
  ·obtain ⟨p, hp⟩ : ∃ e, l[i]? = some e := ⟨_, List.getElem?_eq_getElem hi⟩
   simp only [R_CheckList_L4]
   rw [decide_eq_true (show (i : Int) < lenL l by unfold lenL; omega), br_true, req_of (inRange_of (by omega) (by unfold lenL; omega)), geti_at hp, bind_s, R_CheckPrefix_eq (h p (List.mem_of_getElem? hp)), bind_s, drop_bad hp]
   by_cases hc : chkP p = 0
   ·rw [decide_eq_true (show (chkP p, ()).1 = 0 from hc), Bool.not_true, br_false, if_neg (fun hh => hh hc), show ((i : Int) + 1) = ((i + 1 : Nat) : Int) by omega, req_of (i64ok_of (by omega) (by omega)), hr]
   ·rw [decide_eq_false (show ¬ (chkP p, ()).1 = 0 from hc), Bool.not_false, br_true, if_pos hc]
    unfold badOut
    rw [if_pos hc]
  ·simp only [R_CheckList_L4]
   rw [decide_eq_false (show ¬ (l.length : Int) < lenL l by unfold lenL; omega), br_false, List.drop_of_length_le (Nat.le_refl _)]
   rfl
 rw [hloop, bind_s, List.drop_zero]
 unfold badOut
 by_cases hb : firstBad l = 0
 ·rw [if_neg (fun hh => hh hb), hb]
  rfl
 ·rw [if_pos hb]
  rfl
theorem half_one {v : Bool} {F K : Nat} {p : Bk} (h1 : overBk ⟨v, F, 2 * K⟩ p = true) (h2 : overBk ⟨v, F, 2 * K + 1⟩ p = true) : False := by
 have a := (overBk_iff.1 h1).2.2
 have b := (overBk_iff.1 h2).2.2
 simp only at a b
 omega
theorem half_up {v : Bool} {F K j : Nat} {p : Bk} (hj : j / 2 = K) (h : overBk ⟨v, F, j⟩ p = true) : overBk ⟨v, F + 1, K⟩ p = true := by
 obtain ⟨a, b, c⟩ := overBk_iff.1 h
 simp only at a b c
 refine overBk_iff.2 ⟨a, by show p.f ≤ F + 1; omega, ?_⟩
 show p.k / 2 ^ (F + 1 - p.f) = K
 rw [show F + 1 - p.f = (F - p.f) + 1 by omega, Nat.pow_succ, ← Nat.div_div_eq_div_mul, c, hj]
theorem restB_one {p : Bk} {v : Bool} : ∀ {F K : Nat}, overBk ⟨v, F, K⟩ p = false → (restB p v F K).length ≤ 1
 | 0, K, h => by unfold restB; split <;> simp
 | F + 1, K, h => by
  unfold restB
  split
  ·simp
  ·simp [h]
theorem restB_len (p : Bk) (v : Bool) : ∀ (F K : Nat), (restB p v F K).length ≤ F + 1
 | 0, K => by unfold restB; split <;> simp
 | F + 1, K => by
  unfold restB
  split
  ·simp
  ·split
   ·simp
   ·rw [List.length_append]
    have l1 := restB_len p v F (2 * K)
    have l2 := restB_len p v F (2 * K + 1)
    by_cases h1 : overBk ⟨v, F, 2 * K⟩ p = true
    ·have h2 : overBk ⟨v, F, 2 * K + 1⟩ p = false := by
      cases h2 : overBk ⟨v, F, 2 * K + 1⟩ p
      ·rfl
      ·exact (half_one h1 h2).elim
     have := restB_one h2
     omega
    ·have := restB_one (p := p) (v := v) (F := F) (K := 2 * K) (by simpa using h1)
     omega
theorem lessB_len (p : Bk) : ∀ (l : List Bk), (∀ b ∈ l, b.f ≤ 128) → (lessB p l).length ≤ 129 * l.length
 | [], _ => by simp [lessB]
 | b :: r, h => by
  have h1 := restB_len p b.v b.f b.k
  have h2 := lessB_len p r fun x hx => h x (List.mem_cons_of_mem _ hx)
  have h3 := h b List.mem_cons_self
  show (restB p b.v b.f b.k ++ lessB p r).length ≤ _
  rw [List.length_append, List.length_cons]
  omega
theorem lessB_norm (p : Bk) : ∀ (l : List Bk), l.Pairwise befB → (∀ b ∈ l, b.f ≤ 128) → (lessB p l).length ≤ l.length + 128
 | [], _, _ => by simp [lessB]
 | b :: r, hp, h => by
  obtain ⟨q1, q2⟩ := List.pairwise_cons.1 hp
  show (restB p b.v b.f b.k ++ lessB p r).length ≤ _
  rw [List.length_append, List.length_cons]
  by_cases ho : overBk b p = true
  ·have h1 := restB_len p b.v b.f b.k
   have h3 := h b List.mem_cons_self
   have hr : ∀ c ∈ r, overBk c p = false := fun c hc => by
    cases hx : overBk c p
    ·rfl
    ·exfalso
     obtain ⟨a1, a2, a3⟩ := overBk_range ho
     obtain ⟨b1, b2, b3⟩ := overBk_range hx
     have hlt := p.lo_lt_hi
     rcases q1 c hc with ⟨g1, g2⟩ | ⟨g1, g2⟩
     ·rw [a1] at g1; rw [b1, g1] at g2; cases g2
     ·omega
   have hone : ∀ (m : List Bk), (∀ c ∈ m, overBk c p = false) → (lessB p m).length ≤ m.length := by
    intro m hm
    induction m with
    | nil => simp [lessB]
    | cons c s ih =>
     show (restB p c.v c.f c.k ++ lessB p s).length ≤ _
     rw [List.length_append, List.length_cons]
     have g1 := restB_one (p := p) (v := c.v) (F := c.f) (K := c.k) (hm c List.mem_cons_self)
     have g2 := ih fun x hx => hm x (List.mem_cons_of_mem _ hx)
     omega
   have := hone r hr
   omega
  ·have h1 := restB_one (p := p) (v := b.v) (F := b.f) (K := b.k) (by simpa using ho)
   have h2 := lessB_norm p r q2 fun x hx => h x (List.mem_cons_of_mem _ hx)
   omega
theorem fit_f {b : Bk} (h : fitB b) : b.f ≤ 128 := Nat.le_trans h.1 (wid_top b.v)
theorem over_B {p q : Pf} (hp : rtP p) (hq : rtP q) : prefix_Over_t p q = some (overBk (toB p) (toB q), ()) := by
 rw [prefix_Over_eq hp.2 hq.1, toB_over hp hq]
theorem rest_fuel {p : Pf} (hp : rtP p) {v : Bool} : ∀ (n F K : Nat), F < n → fitB ⟨v, F, K⟩ → span_rest_fuel n (ofB ⟨v, F, K⟩) p = some ((restB (toB p) v F K).map ofB, ())
 | 0, F, K, h, _ => by omega
 | n + 1, F, K, h, hf => by
  obtain ⟨h1, h2⟩ := ofB_ok hf
  show span_rest_step (span_rest_fuel n) (ofB ⟨v, F, K⟩) p = _
  unfold span_rest_step
  rw [over_B hp h1, bind_s, over_B h1 hp, bind_s, h2]
  by_cases c1 : overBk (toB p) ⟨v, F, K⟩ = true
  ·simp only [c1, br_true]
   cases F <;> (unfold restB; rw [if_pos c1]; rfl)
  have c1' : overBk (toB p) ⟨v, F, K⟩ = false := by simpa using c1
  simp only [c1', br_false]
  cases F with
  | zero =>
   have c2 : overBk ⟨v, 0, K⟩ (toB p) = false := by
    cases hx : overBk ⟨v, 0, K⟩ (toB p)
    ·rfl
    ·exfalso
     obtain ⟨a, b, c⟩ := overBk_iff.1 hx
     simp only at a b c
     refine c1 (overBk_iff.2 ⟨a.symm, by show 0 ≤ _; omega, ?_⟩)
     have e : (toB p).f = 0 := by omega
     rw [e] at c ⊢
     simp at c ⊢
     exact c.symm
   rw [c2, Bool.not_false, br_true]
   unfold restB
   rw [if_neg c1]
   rfl
  | succ F =>
   by_cases c2 : overBk ⟨v, F + 1, K⟩ (toB p) = true
   ·rw [c2, Bool.not_true, br_false, prefix_Split_eq, split_eq hf (Nat.succ_pos _), bind_s]
    have fl := loB_fit hf (Nat.succ_pos _)
    have fh := hiB_fit hf (Nat.succ_pos _)
    have e1 := rest_fuel hp n F (2 * K) (by omega) fl
    have e2 := rest_fuel hp n F (2 * K + 1) (by omega) fh
    have g1 : loB ⟨v, F + 1, K⟩ = ⟨v, F, 2 * K⟩ := rfl
    have g2 : hiB ⟨v, F + 1, K⟩ = ⟨v, F, 2 * K + 1⟩ := rfl
    simp only [g1, g2]
    rw [e1, bind_s, e2, bind_s]
    have l1 := restB_len (toB p) v F (2 * K)
    have l2 := restB_len (toB p) v F (2 * K + 1)
    have hF := fit_f hf
    simp only at hF
    rw [req_of (room_of (lenL_nonneg _) (lenL_nonneg _) (by unfold lenL; simp only [List.length_map]; omega)), ← List.map_append]
    conv => rhs; unfold restB
    rw [if_neg c1, if_neg (by rw [c2]; decide)]
   ·have c2' : overBk ⟨v, F + 1, K⟩ (toB p) = false := by simpa using c2
    rw [c2', Bool.not_false, br_true]
    conv => rhs; unfold restB
    rw [if_neg c1, if_pos c2']
    rfl
theorem span_rest_eq {q p : Pf} (hq : rtP q) (hp : rtP p) : span_rest_t q p = some ((restB (toB p) (toB q).v (toB q).f (toB q).k).map ofB, ()) := by
 have hf := toB_fit hq
 have hF := fit_f hf
 have := rest_fuel hp (v := (toB q).v) RECN (toB q).f (toB q).k (by unfold RECN; omega) hf
 rw [show (⟨(toB q).v, (toB q).f, (toB q).k⟩ : Bk) = toB q from rfl, ofB_toB hq] at this
 exact this
end Go.Ma
namespace Go.Ma
open Go
noncomputable def nP (S : Bool → Nat → Prop) : List Pf := (normC S).map ofB
theorem nP_congr {S T : Bool → Nat → Prop} (h : ∀ v n, n < 2 ^ wid v → (S v n ↔ T v n)) : nP S = nP T := congrArg (List.map ofB) (normC_congr h)
theorem nP_right (S : Bool → Nat → Prop) : ∀ p ∈ nP S, rtP p := ofB_right normC_fit
theorem nP_toB (S : Bool → Nat → Prop) : (nP S).map toB = normC S := toB_ofB_map normC_fit
theorem clone_eq {l : List Pf} (h : l.length ≤ 274877906944) : zq6 l = some (l, ()) := by
 unfold zq6
 have e : req (room (lenL ([] : List Pf)) (lenL l)) (some (([] : List Pf) ++ l, ())) = some (l, ()) := by
  rw [req_of (room_of (lenL_nonneg _) (lenL_nonneg _) (by simp only [lenL, List.length_nil]; omega))]
  rfl
 rw [e]
 cases l with
 | nil => exact both_self _
 | cons a r => rfl
theorem take_last {α : Type} {L : List α} {r : List α} {t : α} (h : L.take (r.length + 1) = r ++ [t]) : L[r.length]? = some t ∧ L.take r.length = r := by
 have hl : r.length < L.length := by
  have := congrArg List.length h
  simp at this
  omega
 have e : L.take (r.length + 1) = L.take r.length ++ [L[r.length]] := List.take_succ_eq_append_getElem hl
 rw [e] at h
 have hlen : (L.take r.length).length = r.length := by simp; omega
 obtain ⟨h1, h2⟩ := List.append_inj h hlen
 exact ⟨by rw [List.getElem?_eq_getElem hl]; simpa using h2, h1⟩
theorem put_loop {A M L : List Pf} {q : Pf} (hL : L.length < 9223372036854775808) : ∀ (rs : List Bk) (p : Bk) (N : Nat), (∀ b ∈ rs, fitB b) → fitB p → rs.length < N → L.take rs.length = rs.reverse.map ofB → rs.length ≤ L.length →
  ∃ (n : Nat) (p' : Pf), loopN zq7 N (((), (), ((rs.length : Int), ()), ()), (A, (), M, L, (q, ()), (ofB p, ()), ())) = some (((), (), ((n : Int), ()), ()), (A, (), M, L, (q, ()), (p', ()), ())) ∧ n ≤ L.length ∧ L.take n ++ [p'] = (joinS rs p).reverse.map ofB
 | [], p, 0, _, _, h, _, _ => by simp at h
 | [], p, N + 1, _, hp, _, ht, _ => by
  refine ⟨0, ofB p, ?_, Nat.zero_le _, rfl⟩
  rw [loopN_succ]
  rfl
 | t :: r, p, 0, _, _, h, _, _ => by simp at h
 | t :: r, p, N + 1, hr, hp, h, ht, hle => by
  simp only [List.length_cons] at h ht hle
  have hr' : ∀ b ∈ r, fitB b := fun b hb => hr b (List.mem_cons_of_mem _ hb)
  have ht' := hr t List.mem_cons_self
  have hx : L.take ((r.reverse.map ofB).length + 1) = r.reverse.map ofB ++ [ofB t] := by
   rw [List.length_map, List.length_reverse, ht, List.reverse_cons, List.map_append]
   rfl
  obtain ⟨g1, g2⟩ := take_last hx
  rw [List.length_map, List.length_reverse] at g1 g2
  obtain ⟨ot1, ot2⟩ := ofB_ok ht'
  obtain ⟨op1, op2⟩ := ofB_ok hp
  obtain ⟨w, e1, e2⟩ := join_eq ot1 op1
  rw [ot2, op2] at e1 e2
  have hbody : loopN zq7 (N + 1) (((), (), (((t :: r).length : Int), ()), ()), (A, (), M, L, (q, ()), (ofB p, ()), ())) =
    br (!decide (sib t p)) (some (((), (), (((t :: r).length : Int), ()), ()), (A, (), M, L, (q, ()), (ofB p, ()), ()))) (loopN zq7 N (((), (), ((r.length : Int), ()), ()), (A, (), M, L, (q, ()), (w, ()), ()))) := by
   rw [loopN_succ]
   simp only [zq7]
   have hc : ((t :: r).length : Int) - 1 = (r.length : Int) := by simp only [List.length_cons]; omega
   rw [decide_eq_true (show ((t :: r).length : Int) > 0 by simp only [List.length_cons]; omega), br_true, hc, req_of (i64ok_of (by omega) (by omega)), req_of (inRange_of (by omega) (by unfold lenL; omega)), geti_at g1, bind_s, dup_eq, prefix_Joined_eq, e1, bind_s, req_of (i64ok_of (by omega) (by omega))]
  by_cases hs : sib t p
  ·obtain ⟨rfl, hf⟩ := e2 hs
   rw [hbody, decide_eq_true hs, Bool.not_true, br_false]
   obtain ⟨n, p', q1, q2, q3⟩ := put_loop hL r (upB t) N hr' hf (by omega) g2 (by omega)
   refine ⟨n, p', q1, q2, ?_⟩
   rw [q3, joinS, if_pos hs]
  ·rw [hbody, decide_eq_false hs, Bool.not_false, br_true]
   refine ⟨(t :: r).length, ofB p, rfl, hle, ?_⟩
   rw [joinS, if_neg hs]
   simp only [List.length_cons, ht, List.reverse_cons, List.map_append]
   rfl
noncomputable def stackP (m : List Pf) (i : Nat) : List Bk := ((m.take i).map toB).foldl putS []
theorem stackP_succ {m : List Pf} {i : Nat} {p : Pf} (h : m[i]? = some p) : stackP m (i + 1) = putS (stackP m i) (toB p) := by
 obtain ⟨hl, rfl⟩ := List.getElem?_eq_some_iff.1 h
 unfold stackP
 rw [List.take_succ_eq_append_getElem hl, List.map_append, List.foldl_append]
 rfl
theorem stackP_fit {m : List Pf} (h : ∀ p ∈ m, rtP p) : ∀ i, i ≤ m.length → (∀ b ∈ stackP m i, fitB b) ∧ (stackP m i).length ≤ i
 | 0, _ => ⟨fun b hb => by simp [stackP] at hb, by simp [stackP]⟩
 | i + 1, hi => by
  obtain ⟨h1, h2⟩ := stackP_fit h i (by omega)
  have hp : m[i]? = some m[i] := List.getElem?_eq_getElem (by omega)
  rw [stackP_succ hp]
  have := putS_len (stackP m i) (toB m[i])
  exact ⟨putS_fit h1 (toB_fit (h _ (List.getElem_mem _))), by omega⟩
theorem short_loop {A m : List Pf} (h : ∀ p ∈ m, rtP p) (hl : m.length ≤ 137438953472) :
  loopN span_Short_L5 FUEL (((), (), (lenL m, ()), (0, ()), ()), (A, (), m, ([] : List Pf), ())) = some (((), ()), (A, (), (shortS (m.map toB)).map ofB, ())) := by
 refine loop_up (step := span_Short_L5) (fun i => (((), (), (lenL m, ()), ((i : Int), ()), ()), (A, (), m, (stackP m i).reverse.map ofB, ()))) m.length (fun _ => some (((), ()), (A, (), (shortS (m.map toB)).map ofB, ()))) (fun rec i hi hr => ?_) (fun rec => ?_) FUEL 0 (Nat.zero_le _) (fuel_gt (by omega))
 ·obtain ⟨p, hp⟩ : ∃ e, m[i]? = some e := ⟨_, List.getElem?_eq_getElem hi⟩
  have rp := h p (List.mem_of_getElem? hp)
  obtain ⟨f1, f2⟩ := stackP_fit h i (by omega)
  rw [stackP_succ hp] at hr
  obtain ⟨rs, hrs⟩ : ∃ rs, rs = stackP m i := ⟨_, rfl⟩
  rw [← hrs] at hr f1 f2 ⊢
  have hlr : (rs.reverse.map ofB).length = rs.length := by simp
  have hput : (loopN zq7 FUEL (((), (), (lenL (rs.reverse.map ofB), ()), ()), (A, (), m, rs.reverse.map ofB, (p, ()), (p, ()), ()))).bind (fun y3 : ((Unit × Unit × (Int × Unit) × Unit) × (List Pf × Unit × List Pf × List Pf × (Pf × Unit) × (Pf × Unit) × Unit)) =>
    dup 1 <|
    req ((decide (0 ≤ y3.1.2.2.1.1)) && (decide (y3.1.2.2.1.1 ≤ lenL y3.2.2.2.2.1))) <|
    req (room (lenL (subL y3.2.2.2.2.1 0 y3.1.2.2.1.1)) (lenL ([y3.2.2.2.2.2.2.1.1] : List Pf))) <|
    req (i64ok ((i : Int) + 1)) <|
    rec (((()), (()), (lenL m, ()), ((i : Int) + 1, ()), ()), (y3.2.1, (()), y3.2.2.2.1, (subL y3.2.2.2.2.1 0 y3.1.2.2.1.1) ++ ([y3.2.2.2.2.2.2.1.1] : List Pf), ()))) =
    rec (((), (), (lenL m, ()), (((i + 1 : Nat) : Int), ()), ()), (A, (), m, (joinS rs (toB p)).reverse.map ofB, ())) := by
   obtain ⟨n, p', q1, q2, q3⟩ := put_loop (A := A) (M := m) (q := p) (L := rs.reverse.map ofB) (by omega) rs (toB p) FUEL f1 (toB_fit rp) (fuel_gt (by omega)) (List.take_of_length_le (by omega)) (by omega)
   rw [ofB_toB rp] at q1
   rw [show lenL (rs.reverse.map ofB) = (rs.length : Int) by unfold lenL; rw [hlr], q1, bind_s]
   have hsub : subL (rs.reverse.map ofB) 0 (n : Int) = (rs.reverse.map ofB).take n := by unfold subL; simp
   simp only [dup_eq]
   rw [hsub, q3]
   have hnl : ((rs.reverse.map ofB).take n).length ≤ n := by simp; omega
   have c1 : ((decide (0 ≤ (n : Int))) && (decide ((n : Int) ≤ lenL (rs.reverse.map ofB)))) = true := by
    rw [Bool.and_eq_true, decide_eq_true_iff, decide_eq_true_iff]
    unfold lenL
    omega
   rw [req_of c1, req_of (room_of (lenL_nonneg _) (lenL_nonneg _) (by unfold lenL; simp only [List.length_cons, List.length_nil]; omega)), req_of (i64ok_of (by omega) (by omega)), show ((i : Int) + 1) = ((i + 1 : Nat) : Int) by omega]
  simp only [span_Short_L5]
  rw [decide_eq_true (show (i : Int) < lenL m by unfold lenL; omega), br_true, req_of (inRange_of (by omega) (by unfold lenL; omega)), geti_at hp, bind_s, hput]
  cases rs with
  | nil =>
   rw [decide_eq_false (show ¬ lenL (([] : List Bk).reverse.map ofB) > 0 by unfold lenL; simp), br_false, bind_s, br_false, ← hr]
   rfl
  | cons t r =>
   have ht := f1 t List.mem_cons_self
   obtain ⟨ot1, ot2⟩ := ofB_ok ht
   have hll : lenL ((t :: r).reverse.map ofB) = (r.length : Int) + 1 := by unfold lenL; simp
   have hget : ((t :: r).reverse.map ofB)[r.length]? = some (ofB t) := by
    rw [List.reverse_cons, List.map_append, List.getElem?_append_right (by simp)]
    simp
   rw [hll, decide_eq_true (show (r.length : Int) + 1 > 0 by omega), br_true, show (r.length : Int) + 1 - 1 = (r.length : Int) by omega, req_of (i64ok_of (by omega) (by simp only [List.length_cons] at f2; omega)), req_of (inRange_of (by omega) (by omega)), geti_at hget, bind_s, over_B ot1 rp, bind_s, bind_s, ot2]
   by_cases ho : overBk t (toB p) = true
   ·simp only [ho, br_true]
    rw [show ((i : Int) + 1) = ((i + 1 : Nat) : Int) by omega, req_of (i64ok_of (by omega) (by omega)), ← hr]
    simp only [putS, if_pos ho]
   ·have ho' : overBk t (toB p) = false := by simpa using ho
    simp only [ho', br_false]
    rw [← hr]
    simp only [putS, ho', Bool.false_eq_true, if_false]
 ·simp only [span_Short_L5]
  rw [decide_eq_false (show ¬ (m.length : Int) < lenL m by unfold lenL; omega), br_false]
  unfold stackP shortS
  rw [List.take_length]
theorem sortOk_of {l : List Pf} (h : ∀ p ∈ l, rtP p) (hl : l.length ≤ 274877906944) : sortOkP l = true := by
 unfold sortOkP
 rw [Bool.and_eq_true, List.all_eq_true]
 refine ⟨room_of (lenL_nonneg _) (Int.le_refl _) (by unfold lenL; omega), fun p hp => ?_⟩
 obtain ⟨h1, h2⟩ := chkP_bits (h p hp).2
 have := wid_top p.ad.v6
 rw [Bool.and_eq_true, decide_eq_true_iff, decide_eq_true_iff]
 omega
theorem sortP_len (l : List Pf) : (sortP l).length = l.length := (sortP_perm l).length_eq
theorem span_Short_run {l : List Pf} (h : ∀ p ∈ l, rtP p) (hl : l.length ≤ 137438953472) : span_Short_t l = some ((shortS ((sortP l).map toB)).map ofB, ()) := by
 unfold span_Short_t
 rw [clone_eq (by omega), bind_s, req_of (sortOk_of h (by omega)), short_loop (sortP_right h) (by rw [sortP_len]; omega), bind_s]
theorem lessB_take {m : List Pf} {b : Bk} {i : Nat} {p : Pf} (h : m[i]? = some p) : lessB b ((m.take (i + 1)).map toB) = lessB b ((m.take i).map toB) ++ restB b (toB p).v (toB p).f (toB p).k := by
 obtain ⟨hl, rfl⟩ := List.getElem?_eq_some_iff.1 h
 unfold lessB
 rw [List.take_succ_eq_append_getElem hl, List.map_append, List.flatMap_append]
 simp
theorem less_loop {l : List Pf} {p : Pf} (h : ∀ q ∈ l, rtP q) (hp : rtP p) (hl : l.length ≤ 1000000) :
  loopN span_Less_L3 FUEL (((), (), (), (lenL l, ()), (0, ()), ()), (l, (p, ()), ([] : List Pf), ())) = some (((), ()), (l, (lessB (toB p) (l.map toB)).map ofB, ())) := by
 refine loop_up (step := span_Less_L3) (fun i => (((), (), (), (lenL l, ()), ((i : Int), ()), ()), (l, (p, ()), (lessB (toB p) ((l.take i).map toB)).map ofB, ()))) l.length (fun _ => some (((), ()), (l, (lessB (toB p) (l.map toB)).map ofB, ()))) (fun rec i hi hr => ?_) (fun rec => ?_) FUEL 0 (Nat.zero_le _) (fuel_gt (by omega))
 ·obtain ⟨q, hq⟩ : ∃ e, l[i]? = some e := ⟨_, List.getElem?_eq_getElem hi⟩
  have rq := h q (List.mem_of_getElem? hq)
  simp only [span_Less_L3]
  have hlen := lessB_len (toB p) ((l.take i).map toB) (fun b hb => by
   obtain ⟨x, hx, rfl⟩ := List.mem_map.1 hb
   exact fit_f (toB_fit (h x (List.mem_of_mem_take hx))))
  have hlen2 := restB_len (toB p) (toB q).v (toB q).f (toB q).k
  have hf := fit_f (toB_fit rq)
  simp only [List.length_map, List.length_take] at hlen
  rw [decide_eq_true (show (i : Int) < lenL l by unfold lenL; omega), br_true, req_of (inRange_of (by omega) (by unfold lenL; omega)), geti_at hq, bind_s, span_rest_eq rq hp, bind_s,
   req_of (room_of (lenL_nonneg _) (lenL_nonneg _) (by unfold lenL; simp only [List.length_map]; omega)), show ((i : Int) + 1) = ((i + 1 : Nat) : Int) by omega, req_of (i64ok_of (by omega) (by omega)), ← hr, lessB_take hq, List.map_append]
 ·simp only [span_Less_L3]
  rw [decide_eq_false (show ¬ (l.length : Int) < lenL l by unfold lenL; omega), br_false, List.take_length]
theorem lessB_right {l : List Pf} (h : ∀ q ∈ l, rtP q) (b : Bk) : ∀ q ∈ (lessB b (l.map toB)).map ofB, rtP q := ofB_right (lessB_fit b (fits_of h))
theorem lessB_size {l : List Pf} (h : ∀ q ∈ l, rtP q) (b : Bk) : (lessB b (l.map toB)).length ≤ 129 * l.length := by
 have := lessB_len b (l.map toB) fun x hx => fit_f (fits_of h x hx)
 rwa [List.length_map] at this
theorem span_Less_run {l : List Pf} {p : Pf} (h : ∀ q ∈ l, rtP q) (hp : rtP p) (hl : l.length ≤ 1000000) : span_Less_t l p = some ((shortS ((sortP ((lessB (toB p) (l.map toB)).map ofB)).map toB)).map ofB, ()) := by
 unfold span_Less_t
 have := lessB_size h (toB p)
 rw [less_loop h hp hl, bind_s, span_Short_run (lessB_right h _) (by rw [List.length_map]; omega), bind_s]
theorem span_Less_eq {l : List Pf} {p : Pf} (h : ∀ q ∈ l, rtP q) (hp : rtP p) (hl : l.length ≤ 1000000) : span_Less_t l p = some (nP (diffB (l.map toB) [toB p]), ()) := by
 rw [span_Less_run h hp hl, less_norm (lessB_right h _) (p := toB p) (l := l.map toB) (toB_ofB_map (lessB_fit _ (fits_of h)))]
 rfl
theorem less_size {l : List Pf} (h : ∀ q ∈ l, rtP q) (b : Bk) : (nP (diffB (l.map toB) [b])).length ≤ (lessB b (l.map toB)).length := by
 have e := less_norm (lessB_right h b) (p := b) (l := l.map toB) (toB_ofB_map (lessB_fit _ (fits_of h)))
 unfold nP
 rw [List.length_map, ← e]
 have := short_len ((sortP ((lessB b (l.map toB)).map ofB)).map toB)
 rwa [List.length_map, sortP_len, List.length_map] at this
end Go.Ma
namespace Go.Ma
open Go
theorem bit_half (k g i : Nat) : ((2 * k + 1) * 2 ^ g).testBit i = if i = g then true else (2 * k * 2 ^ g).testBit i := by
 rw [Nat.testBit_mul_two_pow, Nat.testBit_mul_two_pow]
 by_cases h : i = g
 ·subst h
  simp
 ·rw [if_neg h]
  by_cases hg : g ≤ i
  ·obtain ⟨s, rfl⟩ : ∃ s, i = g + 1 + s := ⟨i - (g + 1), by omega⟩
   rw [show g + 1 + s - g = s + 1 by omega, Nat.testBit_succ, Nat.testBit_succ]
   have e1 : (2 * k + 1) / 2 = k := by omega
   have e2 : 2 * k / 2 = k := by omega
   rw [e1, e2]
  ·rw [decide_eq_false hg, Bool.false_and, Bool.false_and]
theorem bits_half {k g w : Nat} (hg : g < w) : (bitsTo (2 * k * 2 ^ g) (w - 1) w).set (w - (g + 1)) 49 = bitsTo ((2 * k + 1) * 2 ^ g) (w - 1) w := by
 apply List.ext_getElem?
 intro i
 rw [List.getElem?_set, bitsTo_get, bitsTo_get, bitsTo_length]
 by_cases hi : i < w
 ·by_cases he : w - (g + 1) = i
  ·rw [if_pos he, if_pos (by omega), if_pos hi]
   have hb : w - 1 - i = g := by omega
   unfold bitV
   rw [hb, bit_half, if_pos rfl]
   rfl
  ·rw [if_neg he, if_pos hi, if_pos hi]
   unfold bitV
   rw [bit_half, if_neg (show ¬ w - 1 - i = g by omega)]
 ·rw [if_neg (by omega), if_neg hi, if_neg hi]
theorem halves_B {b : Bk} (h : fitB b) (hf : 0 < b.f) : R_HalvesOf_t (ofB b) = some (ofB (loB b), ofB (hiB b), ()) := by
 obtain ⟨v, f, k⟩ := b
 obtain ⟨g, rfl⟩ : ∃ g, f = g + 1 := ⟨f - 1, by simp only at hf; omega⟩
 obtain ⟨h1, h2⟩ := h
 simp only at h1
 have hw := wid_top v
 have hn : k * 2 ^ (g + 1) = 2 * k * 2 ^ g := dblA k g
 have hlt : (2 * k + 1) * 2 ^ g < 2 ^ wid v := by
  have e : (k + 1) * 2 ^ (g + 1) = (2 * k + 1 + 1) * 2 ^ g := dblB k g
  have h3 : (k + 1) * 2 ^ (g + 1) ≤ 2 ^ wid v := h2
  have : (2 * k + 1) * 2 ^ g < (2 * k + 1 + 1) * 2 ^ g := by
   have := Nat.two_pow_pos g
   rw [Nat.succ_mul (2 * k + 1)]
   omega
  omega
 have hlt0 : 2 * k * 2 ^ g < 2 ^ wid v := Nat.lt_of_le_of_lt (Nat.mul_le_mul_right _ (by omega)) hlt
 have hin := ofNum_inC hlt0
 have hc := ofNum_chkC hlt0
 have e0 : ofB ⟨v, g + 1, k⟩ = ⟨ofNum v (2 * k * 2 ^ g), ((wid v - (g + 1) : Nat) : Int)⟩ := by unfold ofB; simp only [hn]
 unfold R_HalvesOf_t
 rw [e0]
 simp only
 rw [R_Bits_eq hin, bind_s, bitsA_eq hin.wf hc, num_ofNum]
 have hv : (ofNum v (2 * k * 2 ^ g)).v6 = v := rfl
 rw [hv]
 simp only [ofBytes_size, bitsTo_length, ofBytes_list, Int.toNat_natCast]
 have q1 : Nat.ble (wid v) 1024 = true := by rw [Nat.ble_eq]; omega
 have q2 : (decide (0 ≤ ((wid v - (g + 1) : Nat) : Int)) && decide (((wid v - (g + 1) : Nat) : Int) < 1000)) = true := by
  rw [Bool.and_eq_true, decide_eq_true_iff, decide_eq_true_iff]
  omega
 have q3 : Nat.blt (wid v - (g + 1)) (wid v) = true := by rw [Nat.blt_eq]; omega
 rw [req_of q1, req_of q2, req_of q3, bits_half (show g < wid v by omega)]
 have e1 : R_AddrOf_t ⟨(bitsTo ((2 * k + 1) * 2 ^ g) (wid v - 1) (wid v)).toArray⟩ = some (ofNum v ((2 * k + 1) * 2 ^ g), ()) := R_AddrOf_eq hlt
 rw [e1, bind_s]
 have e2 : ((wid v - (g + 1) : Nat) : Int) + 1 = ((wid v - g : Nat) : Int) := by omega
 rw [e2]
 rfl
theorem cnt_half (l : List Bk) (v : Bool) (F K : Nat) : l.countP (fun b => overBk ⟨v, F, 2 * K⟩ b) + l.countP (fun b => overBk ⟨v, F, 2 * K + 1⟩ b) ≤ l.countP (fun b => overBk ⟨v, F + 1, K⟩ b) := by
 induction l with
 | nil => simp
 | cons b r ih =>
  rw [List.countP_cons, List.countP_cons, List.countP_cons]
  by_cases h1 : overBk ⟨v, F, 2 * K⟩ b = true
  ·have h2 : overBk ⟨v, F, 2 * K + 1⟩ b = false := by
    cases h2 : overBk ⟨v, F, 2 * K + 1⟩ b
    ·rfl
    ·exact (half_one h1 h2).elim
   have h3 := half_up (K := K) (by omega) h1
   simp only [h1, h2, h3]
   simp
   omega
  ·have h1 : overBk ⟨v, F, 2 * K⟩ b = false := by simpa using h1
   by_cases h2 : overBk ⟨v, F, 2 * K + 1⟩ b = true
   ·have h3 := half_up (K := K) (by omega) h2
    simp only [h1, h2, h3]
    simp
    omega
   ·have h2 : overBk ⟨v, F, 2 * K + 1⟩ b = false := by simpa using h2
    simp only [h1, h2]
    simp
    omega
theorem nwB_len (v : Bool) (sm ot : List Bk) : ∀ (F K : Nat), (nwB v sm ot F K).length ≤ 1 + F * (sm ++ ot).countP (fun b => overBk ⟨v, F, K⟩ b)
 | 0, K => by unfold nwB; split <;> (try split) <;> simp
 | F + 1, K => by
  have l1 := nwB_len v sm ot F (2 * K)
  have l2 := nwB_len v sm ot F (2 * K + 1)
  have hc := cnt_half (sm ++ ot) v F K
  unfold nwB
  split
  ·simp
  rename_i h1
  split
  ·simp
  rename_i h2
  split
  ·simp
  rename_i h3
  split
  ·simp
  have hpos : 0 < (sm ++ ot).countP (fun b => overBk ⟨v, F + 1, K⟩ b) := by
   rw [List.countP_pos_iff]
   by_cases hx : ∃ b ∈ sm ++ ot, overBk ⟨v, F + 1, K⟩ b = true
   ·exact hx
   exfalso
   have hn : ∀ b ∈ sm ++ ot, overBk ⟨v, F + 1, K⟩ b = false := fun b hb => by
    cases h : overBk ⟨v, F + 1, K⟩ b
    ·rfl
    ·exact (hx ⟨b, hb, h⟩).elim
   refine h3 (Bool.and_eq_true _ _ |>.mpr ⟨?_, List.all_eq_true.2 fun o ho => ?_⟩)
   ·by_cases hs : sm.any (fun s => overBk s ⟨v, F + 1, K⟩) = true
    ·exact hs
    ·exfalso
     refine h2 (List.all_eq_true.2 fun s hs' => ?_)
     have a1 : overBk s ⟨v, F + 1, K⟩ = false := by
      cases h : overBk s ⟨v, F + 1, K⟩
      ·rfl
      ·exact (hs (List.any_eq_true.2 ⟨s, hs', h⟩)).elim
     unfold meetBk
     rw [a1, hn s (List.mem_append_left _ hs')]
     rfl
   ·have a1 : overBk o ⟨v, F + 1, K⟩ = false := by
     cases h : overBk o ⟨v, F + 1, K⟩
     ·rfl
     ·exact (h1 (List.any_eq_true.2 ⟨o, ho, h⟩)).elim
    unfold meetBk
    rw [a1, hn o (List.mem_append_right _ ho)]
    rfl
  rw [List.length_append]
  generalize (sm ++ ot).countP (fun b => overBk ⟨v, F, 2 * K⟩ b) = x at l1 hc
  generalize (sm ++ ot).countP (fun b => overBk ⟨v, F, 2 * K + 1⟩ b) = y at l2 hc
  generalize (sm ++ ot).countP (fun b => overBk ⟨v, F + 1, K⟩ b) = z at hc hpos ⊢
  have e1 : F * (x + y) ≤ F * z := Nat.mul_le_mul_left _ hc
  rw [Nat.mul_add] at e1
  have e3 : (F + 1) * z = F * z + z := Nat.succ_mul F z
  omega
theorem nwB_size (v : Bool) (sm ot : List Bk) {F : Nat} (hF : F ≤ 128) (K : Nat) : (nwB v sm ot F K).length ≤ 1 + 128 * (sm.length + ot.length) := by
 have h1 := nwB_len v sm ot F K
 have h2 : (sm ++ ot).countP (fun b => overBk ⟨v, F, K⟩ b) ≤ (sm ++ ot).length := List.countP_le_length
 rw [List.length_append] at h2
 have h3 : F * (sm ++ ot).countP (fun b => overBk ⟨v, F, K⟩ b) ≤ 128 * (sm.length + ot.length) := Nat.mul_le_mul hF h2
 omega
theorem nwB_fit (v : Bool) (sm ot : List Bk) {F K : Nat} (h : fitB ⟨v, F, K⟩) : ∀ b ∈ nwB v sm ot F K, fitB b := fun b hb => by
 rw [nwB_canon] at hb
 have h1 := canon_v hb
 have h2 := canon_f hb
 have h3 := (canon_in hb).2
 refine ⟨by rw [h1]; exact Nat.le_trans h2 h.1, ?_⟩
 rw [h1]
 exact Nat.le_trans h3 h.2
theorem hasP_B {p q : Pf} (hp : rtP p) (hq : rtP q) : R_HasPrefix_t p q = some (overBk (toB p) (toB q), ()) := by
 rw [R_HasPrefix_eq hp.1 hp.2 hq.1 (chkP_ad hq.2), toB_over hp hq]
theorem meet_B {p q : Pf} (hp : rtP p) (hq : rtP q) : R_DoMeet_t p q = some (meetBk (toB p) (toB q), ()) := by
 unfold R_DoMeet_t meetBk
 rw [hasP_B hp hq, bind_s, hasP_B hq hp]
 cases overBk (toB p) (toB q) <;> rfl
theorem meet_zero {s : Bk} {v : Bool} {K : Nat} : meetBk s ⟨v, 0, K⟩ = overBk s ⟨v, 0, K⟩ := by
 unfold meetBk
 cases h : overBk s ⟨v, 0, K⟩
 ·rw [Bool.false_or]
  cases h2 : overBk ⟨v, 0, K⟩ s
  ·rfl
  ·exfalso
   obtain ⟨a, b, c⟩ := overBk_iff.1 h2
   simp only at a b c
   have hx : overBk s ⟨v, 0, K⟩ = true := by
    refine overBk_iff.2 ⟨a.symm, Nat.zero_le _, ?_⟩
    have e : s.f = 0 := by omega
    rw [e] at c ⊢
    simp at c ⊢
    exact c.symm
   rw [hx] at h
   cases h
 ·rfl
theorem any_take {α : Type} {l : List α} {i : Nat} {a : α} (h : l[i]? = some a) (q : α → Bool) : (l.take (i + 1)).any q = ((l.take i).any q || q a) := by
 obtain ⟨hl, rfl⟩ := List.getElem?_eq_some_iff.1 h
 rw [List.take_succ_eq_append_getElem hl, List.any_append]
 simp
theorem all_take {α : Type} {l : List α} {i : Nat} {a : α} (h : l[i]? = some a) (q : α → Bool) : (l.take (i + 1)).all q = ((l.take i).all q && q a) := by
 obtain ⟨hl, rfl⟩ := List.getElem?_eq_some_iff.1 h
 rw [List.take_succ_eq_append_getElem hl, List.all_append]
 simp
theorem any_drop {α : Type} {l : List α} {i : Nat} {a : α} (h : l[i]? = some a) (q : α → Bool) : (l.drop i).any q = (q a || (l.drop (i + 1)).any q) := by
 rw [drop_cons h, List.any_cons]
theorem br_or (a b : Bool) : br a (some true) (some b) = some (a || b) := by cases a <;> rfl
theorem br_and (a b : Bool) : br a (some b) (some false) = some (a && b) := by cases a <;> rfl
theorem nw_loop3 {sm ot : List Pf} {p : Pf} (hs : ∀ q ∈ sm, rtP q) (hp : rtP p) (hl : sm.length < 9223372036854775807) :
  loopN R_normWithin_L3 FUEL (((), (), (), (false, ()), (true, ()), (false, ()), (0, ()), ()), (sm, ot, (p, ()), ())) =
   some (((), (), (), (sm.any (fun s => overBk (toB s) (toB p)), ()), (sm.all (fun s => !meetBk (toB s) (toB p)), ()), (false, ()), ()), (sm, ot, (p, ()), ())) := by
 refine loop_up (step := R_normWithin_L3) (fun i => (((), (), (), ((sm.take i).any (fun s => overBk (toB s) (toB p)), ()), ((sm.take i).all (fun s => !meetBk (toB s) (toB p)), ()), (false, ()), ((i : Int), ()), ()), (sm, ot, (p, ()), ()))) sm.length (fun _ => some (((), (), (), (sm.any (fun s => overBk (toB s) (toB p)), ()), (sm.all (fun s => !meetBk (toB s) (toB p)), ()), (false, ()), ()), (sm, ot, (p, ()), ()))) (fun rec i hi hr => ?_) (fun rec => ?_) FUEL 0 (Nat.zero_le _) (fuel_gt (by omega))
 ·obtain ⟨q, hq⟩ : ∃ e, sm[i]? = some e := ⟨_, List.getElem?_eq_getElem hi⟩
  have rq := hs q (List.mem_of_getElem? hq)
  have r1 : inRange (i : Int) (lenL sm) = true := inRange_of (by omega) (by unfold lenL; omega)
  have i1 : i64ok (((i + 1 : Nat) : Int)) = true := i64ok_of (by omega) (by omega)
  rw [any_take hq, all_take hq] at hr
  simp only [R_normWithin_L3]
  rw [decide_eq_true (show (i : Int) < lenL sm by unfold lenL; omega), br_true]
  simp only [r1, req_true, geti_at hq, bind_s, hasP_B rq hp, meet_B rq hp, br_or, br_and, show ((i : Int) + 1) = ((i + 1 : Nat) : Int) by omega, i1]
  exact hr
 ·simp only [R_normWithin_L3]
  rw [decide_eq_false (show ¬ (sm.length : Int) < lenL sm by unfold lenL; omega), br_false, List.take_length]
def nwOut (sm ot : List Pf) (p : Pf) (a n : Bool) (x c : Bool) : (((Unit × Unit) × (List Pf × List Pf × List Pf × Unit)) ⊕ ((Unit × Unit × Unit × (Bool × Unit) × (Bool × Unit) × (Bool × Unit) × Unit) × (List Pf × List Pf × (Pf × Unit) × Unit))) :=
 if x = true then Sum.inl (((), ()), (sm, ot, ([] : List Pf), ())) else Sum.inr (((), (), (), (a, ()), (n, ()), (c, ()), ()), (sm, ot, (p, ()), ()))
theorem nw_loop8 {sm ot : List Pf} {p : Pf} (ho : ∀ q ∈ ot, rtP q) (hp : rtP p) (hl : ot.length < 9223372036854775807) (a n : Bool) :
  loopN R_normWithin_L8 FUEL (((), (), (), (a, ()), (n, ()), (false, ()), (0, ()), ()), (sm, ot, (p, ()), ())) =
   some (nwOut sm ot p a n (ot.any (fun s => overBk (toB s) (toB p))) (ot.any (fun s => meetBk (toB s) (toB p)))) := by
 have := loop_up (step := R_normWithin_L8) (fun i => (((), (), (), (a, ()), (n, ()), ((ot.take i).any (fun s => meetBk (toB s) (toB p)), ()), ((i : Int), ()), ()), (sm, ot, (p, ()), ()))) ot.length (fun i => some (nwOut sm ot p a n ((ot.drop i).any (fun s => overBk (toB s) (toB p))) (ot.any (fun s => meetBk (toB s) (toB p))))) (fun rec i hi hr => ?_) (fun rec => ?_) FUEL 0 (Nat.zero_le _) (fuel_gt (by omega))
 ·exact this
 ·obtain ⟨q, hq⟩ : ∃ e, ot[i]? = some e := ⟨_, List.getElem?_eq_getElem hi⟩
  have rq := ho q (List.mem_of_getElem? hq)
  have r1 : inRange (i : Int) (lenL ot) = true := inRange_of (by omega) (by unfold lenL; omega)
  have i1 : i64ok (((i + 1 : Nat) : Int)) = true := i64ok_of (by omega) (by omega)
  rw [any_take hq] at hr
  rw [any_drop hq]
  simp only [R_normWithin_L8]
  rw [decide_eq_true (show (i : Int) < lenL ot by unfold lenL; omega), br_true]
  simp only [r1, req_true, geti_at hq, bind_s, hasP_B rq hp, meet_B rq hp, br_or, show ((i : Int) + 1) = ((i + 1 : Nat) : Int) by omega, i1]
  cases overBk (toB q) (toB p)
  ·rw [br_false, Bool.false_or]
   exact hr
  ·rw [br_true, Bool.true_or]
   rfl
 ·simp only [R_normWithin_L8]
  rw [decide_eq_false (show ¬ (ot.length : Int) < lenL ot by unfold lenL; omega), br_false, List.take_length, List.drop_length]
  rfl
theorem any_not {α : Type} (l : List α) (q : α → Bool) : (!l.any q) = l.all (fun x => !q x) := by
 induction l with
 | nil => rfl
 | cons a r ih => rw [List.any_cons, List.all_cons, Bool.not_or, ih]
theorem one_eq {l : List Bk} (hl : ∀ b ∈ l, fitB b) {c : Bk} (hc : fitB c) : (∃ q, geti (l.map ofB) 0 = some q ∧ l.length = 1 ∧ q = ofB c) ↔ l = [c] := by
 constructor
 ·rintro ⟨q, h1, h2, h3⟩
  match l, h2 with
  | [x], _ =>
   have : some (ofB x) = some q := h1
   injection this with e
   have e2 : ofB x = ofB c := e.trans h3
   have := congrArg toB e2
   rw [(ofB_ok (hl x (by simp))).2, (ofB_ok hc).2] at this
   rw [this]
 ·rintro rfl
  exact ⟨_, rfl, rfl, rfl⟩
theorem nw_fuel {sm ot : List Pf} (hs : ∀ q ∈ sm, rtP q) (ho : ∀ q ∈ ot, rtP q) (l1 : sm.length ≤ 1000) (l2 : ot.length ≤ 1000) {v : Bool} : ∀ (n F K : Nat), F < n → fitB ⟨v, F, K⟩ →
  R_normWithin_fuel n (ofB ⟨v, F, K⟩) sm ot = some ((nwB v (sm.map toB) (ot.map toB) F K).map ofB, ())
 | 0, F, K, h, _ => by omega
 | n + 1, F, K, h, hf => by
  obtain ⟨h1, h2⟩ := ofB_ok hf
  show R_normWithin_step (R_normWithin_fuel n) (ofB ⟨v, F, K⟩) sm ot = _
  unfold R_normWithin_step
  rw [nw_loop3 hs h1 (by omega), bind_s]
  simp only
  rw [nw_loop8 ho h1 (by omega), bind_s, h2]
  have a1 : (ot.map toB).any (fun o => overBk o ⟨v, F, K⟩) = ot.any (fun s => overBk (toB s) ⟨v, F, K⟩) := by rw [List.any_map]; rfl
  have a2 : (sm.map toB).all (fun s => !meetBk s ⟨v, F, K⟩) = sm.all (fun s => !meetBk (toB s) ⟨v, F, K⟩) := by rw [List.all_map]; rfl
  have a3 : (sm.map toB).any (fun s => overBk s ⟨v, F, K⟩) = sm.any (fun s => overBk (toB s) ⟨v, F, K⟩) := by rw [List.any_map]; rfl
  have a4 : (ot.map toB).all (fun o => !meetBk o ⟨v, F, K⟩) = !ot.any (fun s => meetBk (toB s) ⟨v, F, K⟩) := by rw [any_not, List.all_map]; rfl
  unfold nwOut
  by_cases c1 : ot.any (fun s => overBk (toB s) ⟨v, F, K⟩) = true
  ·rw [if_pos c1]
   cases F <;> (unfold nwB; rw [a1, if_pos c1]; rfl)
  rw [if_neg c1]
  simp only [sumC]
  by_cases c2 : sm.all (fun s => !meetBk (toB s) ⟨v, F, K⟩) = true
  ·rw [c2, br_true]
   cases F <;> (unfold nwB; rw [a1, if_neg c1, a2, if_pos c2]; rfl)
  rw [show sm.all (fun s => !meetBk (toB s) ⟨v, F, K⟩) = false by simpa using c2, br_false, br_and, bind_s]
  cases F with
  | zero =>
   have e1 : sm.any (fun s => overBk (toB s) ⟨v, 0, K⟩) = true := by
    cases hx : sm.any (fun s => overBk (toB s) ⟨v, 0, K⟩)
    ·exfalso
     refine c2 (List.all_eq_true.2 fun s hs' => ?_)
     rw [meet_zero]
     cases hy : overBk (toB s) ⟨v, 0, K⟩
     ·rfl
     ·rw [List.any_eq_true.2 ⟨s, hs', hy⟩] at hx; cases hx
    ·rfl
   have e2 : ot.any (fun s => meetBk (toB s) ⟨v, 0, K⟩) = false := by
    simp only [meet_zero]
    simpa using c1
   rw [e1, e2]
   unfold nwB
   rw [a1, if_neg c1, a2, if_neg c2]
   rfl
  | succ F =>
   conv => rhs; unfold nwB
   rw [a1, if_neg c1, a2, if_neg c2, a3, a4]
   by_cases c3 : (sm.any (fun s => overBk (toB s) ⟨v, F + 1, K⟩) && !ot.any (fun s => meetBk (toB s) ⟨v, F + 1, K⟩)) = true
   ·rw [c3, br_true, if_pos rfl]
    rfl
   rw [if_neg c3, show (sm.any (fun s => overBk (toB s) ⟨v, F + 1, K⟩) && !ot.any (fun s => meetBk (toB s) ⟨v, F + 1, K⟩)) = false by simpa using c3, br_false, halves_B hf (Nat.succ_pos _), bind_s]
   have fl := loB_fit hf (Nat.succ_pos _)
   have fh := hiB_fit hf (Nat.succ_pos _)
   have e1 := nw_fuel hs ho l1 l2 n F (2 * K) (by omega) fl
   have e2 := nw_fuel hs ho l1 l2 n F (2 * K + 1) (by omega) fh
   have g1 : loB ⟨v, F + 1, K⟩ = ⟨v, F, 2 * K⟩ := rfl
   have g2 : hiB ⟨v, F + 1, K⟩ = ⟨v, F, 2 * K + 1⟩ := rfl
   rw [g1] at fl
   rw [g2] at fh
   simp only [g1, g2]
   rw [e1, bind_s, e2, bind_s]
   have hF := fit_f fl
   simp only at hF
   have s1 := nwB_size v (sm.map toB) (ot.map toB) hF (2 * K)
   have s2 := nwB_size v (sm.map toB) (ot.map toB) hF (2 * K + 1)
   have o1 := one_eq (nwB_fit v (sm.map toB) (ot.map toB) fl) fl
   have o2 := one_eq (nwB_fit v (sm.map toB) (ot.map toB) fh) fh
   simp only [List.length_map] at s1 s2
   generalize nwB v (sm.map toB) (ot.map toB) F (2 * K) = X at s1 o1 ⊢
   generalize nwB v (sm.map toB) (ot.map toB) F (2 * K + 1) = Y at s2 o2 ⊢
   have hroom : room (lenL (X.map ofB)) (lenL (Y.map ofB)) = true := room_of (lenL_nonneg _) (lenL_nonneg _) (by unfold lenL; simp only [List.length_map]; omega)
   have hlX : (lenL (X.map ofB) = 1) ↔ X.length = 1 := by unfold lenL; rw [List.length_map]; omega
   have hlY : (lenL (Y.map ofB) = 1) ↔ Y.length = 1 := by unfold lenL; rw [List.length_map]; omega
   have hz : ∀ (Z : List Bk), Z.length = 1 → ∃ z, Z = [z] := fun Z hZ => by
    match Z, hZ with
    | [z], _ => exact ⟨z, rfl⟩
   simp only [br_and, bind_s, eqPf_eq]
   by_cases x1 : X.length = 1
   rotate_left
   ·rw [decide_eq_false (fun hh => x1 (hlX.1 hh)), Bool.false_and, br_false, bind_s, br_false, bind_s, br_false, req_of hroom, if_neg (fun hh => x1 (by rw [hh.1]; rfl)), List.map_append]
   by_cases y1 : Y.length = 1
   rotate_left
   ·rw [decide_eq_false (fun hh => y1 (hlY.1 hh)), Bool.and_false, br_false, bind_s, br_false, bind_s, br_false, req_of hroom, if_neg (fun hh => y1 (by rw [hh.2]; rfl)), List.map_append]
   rw [decide_eq_true (hlX.2 x1), decide_eq_true (hlY.2 y1), Bool.true_and, br_true]
   obtain ⟨x, rfl⟩ := hz X x1
   obtain ⟨y, rfl⟩ := hz Y y1
   have gx : geti (([x] : List Bk).map ofB) 0 = some (ofB x) := rfl
   have gy : geti (([y] : List Bk).map ofB) 0 = some (ofB y) := rfl
   have rx : inRange 0 (lenL (([x] : List Bk).map ofB)) = true := rfl
   have ry : inRange 0 (lenL (([y] : List Bk).map ofB)) = true := rfl
   have q1 : ofB x = ofB ⟨v, F, 2 * K⟩ ↔ [x] = [⟨v, F, 2 * K⟩] := ⟨fun hh => o1.1 ⟨_, gx, rfl, hh⟩, fun hh => by injection hh with h1 _; rw [h1]⟩
   have q2 : ofB y = ofB ⟨v, F, 2 * K + 1⟩ ↔ [y] = [⟨v, F, 2 * K + 1⟩] := ⟨fun hh => o2.1 ⟨_, gy, rfl, hh⟩, fun hh => by injection hh with h1 _; rw [h1]⟩
   rw [req_of rx, gx, bind_s, bind_s]
   by_cases z1 : [x] = [(⟨v, F, 2 * K⟩ : Bk)]
   rotate_left
   ·rw [decide_eq_false (fun hh => z1 (q1.1 hh)), br_false, bind_s, br_false, req_of hroom, if_neg (fun hh => z1 hh.1), List.map_append]
   rw [decide_eq_true (q1.2 z1), br_true, req_of ry, gy, bind_s, bind_s]
   by_cases z2 : [y] = [(⟨v, F, 2 * K + 1⟩ : Bk)]
   ·rw [decide_eq_true (q2.2 z2), br_true, if_pos ⟨z1, z2⟩]
    rfl
   ·rw [decide_eq_false (fun hh => z2 (q2.1 hh)), br_false, req_of hroom, if_neg (fun hh => z2 hh.2), List.map_append]
theorem zero_B (v : Bool) : ofB ⟨v, wid v, 0⟩ = ⟨⟨v, 0, 0⟩, 0⟩ ∧ fitB ⟨v, wid v, 0⟩ := by
 constructor
 ·unfold ofB ofNum
  simp
 ·refine ⟨Nat.le_refl _, ?_⟩
  show (0 + 1) * 2 ^ wid v ≤ 2 ^ wid v
  omega
theorem R_NormOf_eq {sm ot : List Pf} (hs : ∀ q ∈ sm, rtP q) (ho : ∀ q ∈ ot, rtP q) (l1 : sm.length ≤ 1000) (l2 : ot.length ≤ 1000) : R_NormOf_t sm ot = some (nP (diffB (sm.map toB) (ot.map toB)), ()) := by
 obtain ⟨z1, f1⟩ := zero_B false
 obtain ⟨z2, f2⟩ := zero_B true
 have e1 := nw_fuel hs ho l1 l2 (v := false) RECN 32 0 (by unfold RECN; omega) f1
 have e2 := nw_fuel hs ho l1 l2 (v := true) RECN 128 0 (by unfold RECN; omega) f2
 rw [show (⟨false, 32, 0⟩ : Bk) = ⟨false, wid false, 0⟩ from rfl, z1] at e1
 rw [show (⟨true, 128, 0⟩ : Bk) = ⟨true, wid true, 0⟩ from rfl, z2] at e2
 have s1 := nwB_size false (sm.map toB) (ot.map toB) (show 32 ≤ 128 by omega) 0
 have s2 := nwB_size true (sm.map toB) (ot.map toB) (Nat.le_refl 128) 0
 simp only [List.length_map] at s1 s2
 unfold R_NormOf_t R_normWithin_t
 rw [e1, bind_s, e2, bind_s, req_of (room_of (lenL_nonneg _) (lenL_nonneg _) (by unfold lenL; simp only [List.length_map]; omega)), ← List.map_append, nw_norm]
 rfl
theorem diff_nil (l : List Bk) (v : Bool) (n : Nat) : diffB l [] v n ↔ covB l v n := by
 unfold diffB
 exact ⟨fun h => h.1, fun h => ⟨h, fun ⟨b, hb, _⟩ => by cases hb⟩⟩
end Go.Ma
namespace Go.Ma
open Go
theorem R_SamePrefixes_eq {a b : List Pf} (hl : a.length < 9223372036854775807) : R_SamePrefixes_t a b = some (decide (a = b), ()) := by
 unfold R_SamePrefixes_t
 by_cases hlen : a.length = b.length
 rotate_left
 ·rw [decide_eq_false (show ¬ lenL a = lenL b by unfold lenL; omega), Bool.not_false, br_true, decide_eq_false (fun e => hlen (by rw [e]))]
 rw [decide_eq_true (show lenL a = lenL b by unfold lenL; omega), Bool.not_true, br_false]
 have hloop : loopN zq0 FUEL (((), (), (0, ()), ()), (a, b, ())) = some (if a.drop 0 = b.drop 0 then Sum.inr ((), (a, b, ())) else Sum.inl ((((false : Bool), ()), ()), (a, b, ()))) := by
  refine loop_up (step := zq0) (fun i => (((), (), ((i : Int), ()), ()), (a, b, ()))) a.length (fun i => some (if a.drop i = b.drop i then Sum.inr ((), (a, b, ())) else Sum.inl ((((false : Bool), ()), ()), (a, b, ())))) (fun rec i hi hr => ?_) (fun rec => ?_) FUEL 0 (Nat.zero_le _) (fuel_gt (by omega))
  ·obtain ⟨p, hp⟩ : ∃ e, a[i]? = some e := ⟨_, List.getElem?_eq_getElem hi⟩
   obtain ⟨q, hq⟩ : ∃ e, b[i]? = some e := ⟨_, List.getElem?_eq_getElem (by omega)⟩
   simp only [zq0]
   rw [decide_eq_true (show (i : Int) < lenL a by unfold lenL; omega), br_true, req_of (inRange_of (by omega) (by unfold lenL; omega)), geti_at hp, bind_s, req_of (inRange_of (by omega) (by unfold lenL; omega)), geti_at hq, bind_s, eqPf_eq, show ((i : Int) + 1) = ((i + 1 : Nat) : Int) by omega, req_of (i64ok_of (by omega) (by omega)), hr, drop_cons hp, drop_cons hq]
   by_cases he : p = q
   ·subst he
    rw [decide_eq_true rfl, Bool.not_true, br_false]
    by_cases hd : a.drop (i + 1) = b.drop (i + 1)
    ·rw [if_pos hd, if_pos (by rw [hd])]
    ·rw [if_neg hd, if_neg (fun e => hd (List.cons.inj e).2)]
   ·rw [decide_eq_false he, Bool.not_false, br_true, if_neg (fun e => he (List.cons.inj e).1)]
  ·simp only [zq0]
   rw [decide_eq_false (show ¬ (a.length : Int) < lenL a by unfold lenL; omega), br_false, List.drop_length, hlen, List.drop_length, if_pos rfl]
 rw [hloop, bind_s, List.drop_zero, List.drop_zero]
 by_cases he : a = b
 ·rw [if_pos he, decide_eq_true he]
  rfl
 ·rw [if_neg he, decide_eq_false he]
  rfl
theorem prefixesAre_eq {l w : List Pf} {e u : Int} (hl : l.length < 9223372036854775807) : law_prefixesAre_t l e u w = some (decide (e = u) && decide (l = if u ≠ 0 then [] else w), ()) := by
 unfold law_prefixesAre_t
 rw [R_SamePrefixes_eq hl, R_SamePrefixes_eq hl]
 by_cases hu : u = 0
 ·rw [decide_eq_true hu, Bool.not_true, br_false, if_neg (fun hh => hh hu), bind_s, br_and, bind_s]
 ·rw [decide_eq_false hu, Bool.not_false, br_true, if_pos hu, bind_s, br_and, bind_s]
def netP (n b : Nat) : Pf := ⟨⟨false, 0, n⟩, b⟩
theorem netP_in {n b : Nat} (hn : n < 1000000000) (hb : b < 1000) : (netP n b).In := ⟨⟨⟨by show (0 : Int) ≤ 0; omega, by show (0 : Int) < 18446744073709551616; omega⟩, ⟨by show (0 : Int) ≤ (n : Int); omega, by show (n : Int) < 18446744073709551616; omega⟩⟩, ⟨by show (-9223372036854775808 : Int) ≤ (b : Int); omega, by show (b : Int) < 9223372036854775808; omega⟩⟩
end Go.Ma
namespace Go.Ma
open Go
theorem less_NormB {l : List Pf} (h : ∀ q ∈ l, rtP q) (b : Bk) : NormB (normC (diffB (l.map toB) [b])) := by
 have e := less_norm (lessB_right h b) (p := b) (l := l.map toB) (toB_ofB_map (lessB_fit _ (fits_of h)))
 rw [← e]
 exact (short_ok (sortP_rise (lessB_right h b))).1
theorem one_NormB (b : Bk) : NormB [b] := ⟨List.pairwise_singleton _ _, fun x hx y hy => by
  simp only [List.mem_singleton] at hx hy
  subst hx hy
  rintro ⟨_, _, _, h4⟩
  omega⟩
theorem nP_one {p : Pf} (h : rtP p) : nP (diffB [toB p] []) = [p] := by
 rw [show nP (diffB [toB p] []) = nP (covB [toB p]) from nP_congr fun v n _ => diff_nil _ v n]
 unfold nP
 rw [← one_norm (toB_fit h)]
 show [ofB (toB p)] = [p]
 rw [ofB_toB h]
theorem diff_step (b u : Bk) (U : List Bk) : normC (diffB (normC (diffB [b] U)) [u]) = normC (diffB [b] (U ++ [u])) :=
 normC_congr fun v n hn => by
  unfold diffB
  rw [normC_cov hn, covB_app]
  constructor
  ·rintro ⟨⟨g1, g2⟩, g3⟩
   exact ⟨g1, fun g => g.elim g2 g3⟩
  ·rintro ⟨g1, g2⟩
   exact ⟨⟨g1, fun g => g2 (.inl g)⟩, fun g => g2 (.inr g)⟩
theorem left_sizes {p : Pf} (h : rtP p) {used : List Pf} (hu : ∀ q ∈ used, rtP q) : ∀ i, i ≤ used.length → NormB (normC (diffB [toB p] ((used.take i).map toB))) ∧ (nP (diffB [toB p] ((used.take i).map toB))).length ≤ 1 + 128 * i
 | 0, _ => by
  have e := nP_one h
  refine ⟨?_, by rw [List.take_zero]; show (nP (diffB [toB p] [])).length ≤ _; rw [e]; simp⟩
  rw [List.take_zero]
  have e2 : normC (diffB [toB p] []) = [toB p] := by
   rw [show normC (diffB [toB p] []) = normC (covB [toB p]) from normC_congr fun v n _ => diff_nil _ v n]
   exact (one_norm (toB_fit h)).symm
  show NormB (normC (diffB [toB p] []))
  rw [e2]
  exact one_NormB _
 | i + 1, hi => by
  obtain ⟨g1, g2⟩ := left_sizes h hu i (by omega)
  have hq : used[i]? = some used[i] := List.getElem?_eq_getElem (by omega)
  obtain ⟨X, hX⟩ : ∃ X, X = diffB [toB p] ((used.take i).map toB) := ⟨_, rfl⟩
  rw [← hX] at g1 g2
  have hr := nP_right X
  have e : normC (diffB ((nP X).map toB) [toB used[i]]) = normC (diffB [toB p] ((used.take (i + 1)).map toB)) := by
   rw [nP_toB, hX, diff_step, List.take_succ_eq_append_getElem (by omega : i < used.length), List.map_append]
   rfl
  refine ⟨by rw [← e]; exact less_NormB hr _, ?_⟩
  have e2 : nP (diffB [toB p] ((used.take (i + 1)).map toB)) = nP (diffB ((nP X).map toB) [toB used[i]]) := congrArg (List.map ofB) e.symm
  rw [e2]
  have k1 := less_size hr (toB used[i])
  have k2 := lessB_norm (toB used[i]) ((nP X).map toB) (by rw [nP_toB]; exact g1.asc) (fun b hb => fit_f (fits_of hr b hb))
  rw [List.length_map] at k2
  omega
theorem pick_left_eq {p : Pf} (h : rtP p) {used : List Pf} (hu : ∀ q ∈ used, rtP q) (hl : used.length ≤ 1000) : pick_left_t p used = some (nP (diffB [toB p] (used.map toB)), ()) := by
 have hloop : loopN pick_left_L3 FUEL (((), (), (lenL used, ()), (0, ()), ()), (used, ([p] : List Pf), ())) = some (((), ()), (used, nP (diffB [toB p] (used.map toB)), ())) := by
  have := loop_up (step := pick_left_L3) (fun i => (((), (), (lenL used, ()), ((i : Int), ()), ()), (used, nP (diffB [toB p] ((used.take i).map toB)), ()))) used.length (fun _ => some (((), ()), (used, nP (diffB [toB p] (used.map toB)), ()))) (fun rec i hi hr => ?_) (fun rec => ?_) FUEL 0 (Nat.zero_le _) (fuel_gt (by omega))
  ·rw [List.take_zero, show nP (diffB [toB p] (([] : List Pf).map toB)) = [p] from nP_one h] at this
   exact this
  ·obtain ⟨q, hq⟩ : ∃ e, used[i]? = some e := ⟨_, List.getElem?_eq_getElem hi⟩
   have rq := hu q (List.mem_of_getElem? hq)
   obtain ⟨_, g2⟩ := left_sizes h hu i (by omega)
   simp only [pick_left_L3]
   rw [decide_eq_true (show (i : Int) < lenL used by unfold lenL; omega), br_true, req_of (inRange_of (by omega) (by unfold lenL; omega)), geti_at hq, bind_s, span_Less_eq (nP_right _) rq (by omega), bind_s, show ((i : Int) + 1) = ((i + 1 : Nat) : Int) by omega, req_of (i64ok_of (by omega) (by omega)), ← hr]
   obtain ⟨hi', rfl⟩ := List.getElem?_eq_some_iff.1 hq
   have e : nP (diffB ((nP (diffB [toB p] ((used.take i).map toB))).map toB) [toB used[i]]) = nP (diffB [toB p] ((used.take (i + 1)).map toB)) := by
    unfold nP
    rw [show (List.map ofB (normC (diffB [toB p] (List.map toB (List.take i used))))).map toB = normC (diffB [toB p] (List.map toB (List.take i used))) from nP_toB _, diff_step, List.take_succ_eq_append_getElem hi', List.map_append]
    rfl
   rw [e]
  ·simp only [pick_left_L3]
   rw [decide_eq_false (show ¬ (used.length : Int) < lenL used by unfold lenL; omega), br_false, List.take_length]
 unfold pick_left_t
 rw [hloop, bind_s]
def rdyP (p : Pf) (used : List Pf) : Int := if chkP p ≠ 0 then chkP p else chkL used
theorem pick_ready_eq {p : Pf} (hp : p.In) {used : List Pf} (hu : tabIn used) : pick_ready_t p used = some (rdyP p used, ()) := by
 unfold pick_ready_t rdyP
 rw [prefix_Check_eq hp, bind_s]
 by_cases hc : chkP p = 0
 ·rw [decide_eq_true (show (chkP p, ()).1 = 0 from hc), Bool.not_true, br_false, if_neg (fun hh => hh hc), span_Right_eq hu, bind_s]
 ·rw [decide_eq_false (show ¬ (chkP p, ()).1 = 0 from hc), Bool.not_false, br_true, if_pos hc]
theorem rdyP_ok {p : Pf} (hp : p.In) {used : List Pf} (hu : tabIn used) (h : rdyP p used = 0) : rtP p ∧ used.length ≤ 12 ∧ ∀ q ∈ used, rtP q := by
 unfold rdyP at h
 split at h
 ·rename_i h1; exact absurd h h1
 ·rename_i h1
  exact ⟨⟨hp, Decidable.not_not.1 h1⟩, chkL_ok hu h⟩
noncomputable def freeT (p : Pf) (used : List Pf) : List Pf × Int × Unit := if rdyP p used ≠ 0 then ([], rdyP p used, ()) else (nP (diffB [toB p] (used.map toB)), 0, ())
theorem pick_Free_eq {p : Pf} (hp : p.In) {used : List Pf} (hu : tabIn used) : pick_Free_t p used = some (freeT p used) := by
 unfold pick_Free_t freeT
 rw [pick_ready_eq hp hu, bind_s]
 by_cases hc : rdyP p used = 0
 ·obtain ⟨h1, h2, h3⟩ := rdyP_ok hp hu hc
  rw [decide_eq_true (show (rdyP p used, ()).1 = 0 from hc), Bool.not_true, br_false, if_neg (fun hh => hh hc), pick_left_eq h1 h3 (by omega), bind_s]
 ·rw [decide_eq_false (show ¬ (rdyP p used, ()).1 = 0 from hc), Bool.not_false, br_true, if_pos hc]
def pfZ : Pf := ⟨⟨false, 0, 0⟩, 0⟩
def cutFirst (l : List Pf) (bits : Int) : Option Pf := (l.find? fun f => decide (f.bits ≤ bits)).map fun f => ⟨f.ad, bits⟩
def firstOut (o : Option Pf) : Pf × Int × Unit := match o with | some q => (q, 0, ()) | none => (pfZ, 8, ())
def rdyF (p : Pf) (used : List Pf) (bits : Int) : Int := if rdyP p used ≠ 0 then rdyP p used else if bits < p.bits ∨ (wid p.ad.v6 : Nat) < bits then 3 else 0
noncomputable def firstT (p : Pf) (used : List Pf) (bits : Int) : Pf × Int × Unit := if rdyF p used bits ≠ 0 then (pfZ, rdyF p used bits, ()) else firstOut (cutFirst (nP (diffB [toB p] (used.map toB))) bits)
theorem find_firstF {α : Type} (q : α → Bool) (l : List α) : (match firstF q l with | some i => l[i]? | none => none) = l.find? q := by
 induction l with
 | nil => rfl
 | cons x r ih =>
  unfold firstF
  rw [List.find?_cons]
  cases q x
  ·simp only [Bool.false_eq_true, if_false]
   rw [← ih]
   cases firstF q r <;> rfl
  ·rfl
def idxOut (used l : List Pf) (p : Pf) (bits : Int) (o : Option Nat) : ((((Int × Unit) × Unit) × (List Pf × (Pf × Unit) × (Int × Unit) × (Pf × Unit) × List Pf × Unit)) ⊕ (Unit × (List Pf × (Pf × Unit) × (Int × Unit) × (Pf × Unit) × List Pf × Unit))) :=
 match o with | some i => Sum.inl ((((i : Int), ()), ()), (used, (p, ()), (bits, ()), (pfZ, ()), l, ())) | none => Sum.inr ((), (used, (p, ()), (bits, ()), (pfZ, ()), l, ()))
theorem pick_First_eq {p : Pf} (hp : p.In) {used : List Pf} (hu : tabIn used) (bits : Int) : pick_First_t p used bits = some (firstT p used bits) := by
 unfold pick_First_t firstT rdyF
 rw [pick_ready_eq hp hu, bind_s]
 by_cases hc : rdyP p used = 0
 rotate_left
 ·rw [decide_eq_false (show ¬ (rdyP p used, ()).1 = 0 from hc), br_false, bind_s, br_false, Bool.not_false, br_true]
  simp only [if_pos hc]
  rfl
 obtain ⟨h1, h2, h3⟩ := rdyP_ok hp hu hc
 rw [decide_eq_true (show (rdyP p used, ()).1 = 0 from hc), br_true, prefix_Wide_eq, bind_s, br_or, bind_s, Bool.not_true]
 simp only [if_neg (show ¬ rdyP p used ≠ 0 from fun hh => hh hc)]
 by_cases hb : bits < p.bits ∨ ((wid p.ad.v6 : Nat) : Int) < bits
 ·have e : (decide (bits < p.bits) || decide (bits > ((wid p.ad.v6 : Nat) : Int))) = true := by
   rw [Bool.or_eq_true, decide_eq_true_iff, decide_eq_true_iff]; exact hb
  rw [e, br_true, if_pos hb, if_pos (by decide)]
  rfl
 have e : (decide (bits < p.bits) || decide (bits > ((wid p.ad.v6 : Nat) : Int))) = false := by
  rw [Bool.or_eq_false_iff, decide_eq_false_iff_not, decide_eq_false_iff_not]; exact ⟨fun g => hb (.inl g), fun g => hb (.inr g)⟩
 rw [e, br_false, br_false, if_neg hb, if_neg (by decide), pick_left_eq h1 h3 (by omega), bind_s]
 simp only
 have hsz := (left_sizes h1 h3 used.length (Nat.le_refl _)).2
 rw [List.take_length] at hsz
 generalize nP (diffB [toB p] (used.map toB)) = l at hsz ⊢
 have hll : l.length < 9223372036854775808 := by omega
 have hloop := idx_loop (step := zq2) l (fun f => decide (f.bits ≤ bits)) (fun i => (((), (), (lenL l, ()), ((i : Int), ()), ()), (used, (p, ()), (bits, ()), (pfZ, ()), l, ()))) (idxOut used l p bits) hll (fun rec i q hq hi => by
   simp only [zq2]
   rw [decide_eq_true (show (i : Int) < lenL l by unfold lenL; omega), br_true, req_of (inRange_of (by omega) (by unfold lenL; omega)), geti_at hq, bind_s]
   unfold pick_First_1_t
   rw [bind_s, show ((i : Int) + 1) = ((i + 1 : Nat) : Int) by omega, req_of (i64ok_of (by omega) (by omega))]
   cases decide (q.bits ≤ bits) <;> rfl) (fun rec => by
   simp only [zq2]
   rw [decide_eq_false (show ¬ (l.length : Int) < lenL l by unfold lenL; omega), br_false]
   rfl)
 have hloop' : loopN zq2 FUEL (((), (), (lenL l, ()), (0, ()), ()), (used, (p, ()), (bits, ()), ((⟨(⟨false, 0, 0⟩ : Ad), 0⟩ : Pf), ()), l, ())) = some (idxOut used l p bits (firstF (fun f => decide (f.bits ≤ bits)) l)) := hloop
 rw [hloop', bind_s]
 have hf := find_firstF (fun f : Pf => decide (f.bits ≤ bits)) l
 unfold cutFirst
 cases hx : firstF (fun f : Pf => decide (f.bits ≤ bits)) l with
 | none =>
  rw [hx] at hf
  rw [← hf]
  rfl
 | some i =>
  rw [hx] at hf
  have hi := firstF_lt hx
  obtain ⟨q, hq⟩ : ∃ e, l[i]? = some e := ⟨_, List.getElem?_eq_getElem hi⟩
  have hq' : l.find? (fun f : Pf => decide (f.bits ≤ bits)) = some q := by rw [← hf]; exact hq
  rw [hq']
  have r1 : inRange (i : Int) (lenL l) = true := inRange_of (by omega) (by unfold lenL; omega)
  simp only [idxOut, sumC]
  rw [decide_eq_false (show ¬ (i : Int) < 0 by omega), br_false, req_of r1, req_of r1, geti_at hq, bind_s]
  rfl
def fsOut (used : List Pf) (p : Pf) (bits : Int) (x m : Bool) : (((Unit × (Bool × Unit) × Unit) × (List Pf × (Pf × Unit) × Unit)) ⊕ ((Unit × (Int × Unit) × Unit × Unit × (Bool × Unit) × Unit) × (List Pf × (Pf × Unit) × (Pf × Unit) × Unit))) :=
 if x = true then Sum.inl (((), (false, ()), ()), (used, (pfZ, ()), ())) else Sum.inr (((), (bits, ()), (), (), (m, ()), ()), (used, (p, ()), (pfZ, ()), ()))
theorem fs_loop {used : List Pf} {p : Pf} (hu : ∀ q ∈ used, rtP q) (hp : rtP p) (hl : used.length < 9223372036854775807) (bits : Int) :
  loopN R_FirstOf_L3 FUEL (((), (bits, ()), (), (), (false, ()), (0, ()), ()), (used, (p, ()), ((⟨(⟨false, 0, 0⟩ : Ad), 0⟩ : Pf), ()), ())) =
   some (fsOut used p bits (used.any (fun s => overBk (toB s) (toB p))) (used.any (fun s => meetBk (toB s) (toB p)))) := by
 have := loop_up (step := R_FirstOf_L3) (fun i => (((), (bits, ()), (), (), ((used.take i).any (fun s => meetBk (toB s) (toB p)), ()), ((i : Int), ()), ()), (used, (p, ()), (pfZ, ()), ()))) used.length (fun i => some (fsOut used p bits ((used.drop i).any (fun s => overBk (toB s) (toB p))) (used.any (fun s => meetBk (toB s) (toB p))))) (fun rec i hi hr => ?_) (fun rec => ?_) FUEL 0 (Nat.zero_le _) (fuel_gt (by omega))
 ·exact this
 ·obtain ⟨q, hq⟩ : ∃ e, used[i]? = some e := ⟨_, List.getElem?_eq_getElem hi⟩
  have rq := hu q (List.mem_of_getElem? hq)
  have r1 : inRange (i : Int) (lenL used) = true := inRange_of (by omega) (by unfold lenL; omega)
  have i1 : i64ok (((i + 1 : Nat) : Int)) = true := i64ok_of (by omega) (by omega)
  rw [any_take hq] at hr
  rw [any_drop hq]
  simp only [R_FirstOf_L3]
  rw [decide_eq_true (show (i : Int) < lenL used by unfold lenL; omega), br_true]
  simp only [r1, req_true, geti_at hq, bind_s, hasP_B rq hp, meet_B rq hp, br_or, show ((i : Int) + 1) = ((i + 1 : Nat) : Int) by omega, i1]
  cases overBk (toB q) (toB p)
  ·rw [br_false, Bool.false_or]
   exact hr
  ·rw [br_true, Bool.true_or]
   rfl
 ·simp only [R_FirstOf_L3]
  rw [decide_eq_false (show ¬ (used.length : Int) < lenL used by unfold lenL; omega), br_false, List.take_length, List.drop_length]
  rfl
def fOut (o : Option Bk) : Pf × Bool × Unit := match o with | some b => (ofB b, true, ()) | none => (pfZ, false, ())
theorem part_B (v : Bool) {t F : Nat} (ht : t ≤ F) (K : Nat) : (⟨(ofB ⟨v, F, K⟩).ad, ((wid v - t : Nat) : Int)⟩ : Pf) = ofB ⟨v, t, K * 2 ^ (F - t)⟩ := by
 unfold ofB
 simp only
 rw [Nat.mul_assoc, ← Nat.pow_add, show F - t + t = F by omega]
theorem first_fuel {used : List Pf} (hu : ∀ q ∈ used, rtP q) (hl : used.length ≤ 1000) {v : Bool} {t : Nat} : ∀ (n F K : Nat), F < n → fitB ⟨v, F, K⟩ → t ≤ F →
  R_FirstOf_fuel n (ofB ⟨v, F, K⟩) used ((wid v - t : Nat) : Int) = some (fOut (firstB (used.map toB) v t F K))
 | 0, F, K, h, _, _ => by omega
 | n + 1, F, K, h, hf, ht => by
  obtain ⟨h1, h2⟩ := ofB_ok hf
  show R_FirstOf_step (R_FirstOf_fuel n) (ofB ⟨v, F, K⟩) used _ = _
  unfold R_FirstOf_step
  rw [fs_loop hu h1 (by omega), bind_s, h2]
  have a1 : (used.map toB).any (fun o => overBk o ⟨v, F, K⟩) = used.any (fun s => overBk (toB s) ⟨v, F, K⟩) := by rw [List.any_map]; rfl
  have a4 : (used.map toB).all (fun o => !meetBk o ⟨v, F, K⟩) = !used.any (fun s => meetBk (toB s) ⟨v, F, K⟩) := by rw [any_not, List.all_map]; rfl
  unfold fsOut
  by_cases c1 : used.any (fun s => overBk (toB s) ⟨v, F, K⟩) = true
  ·rw [if_pos c1]
   cases F <;> (unfold firstB; rw [a1, if_pos c1]; rfl)
  rw [if_neg c1]
  simp only [sumC]
  by_cases c2 : used.any (fun s => meetBk (toB s) ⟨v, F, K⟩) = true
  rotate_left
  ·have c2' : used.any (fun s => meetBk (toB s) ⟨v, F, K⟩) = false := by simpa using c2
   rw [c2', Bool.not_false, br_true, part_B v ht]
   cases F <;> (unfold firstB; rw [a1, if_neg c1, a4, c2', Bool.not_false, if_pos rfl]; rfl)
  rw [c2, Bool.not_true, br_false]
  have hw := hf.1
  simp only at hw
  have hbits : (ofB ⟨v, F, K⟩).bits = ((wid v - F : Nat) : Int) := rfl
  rw [hbits]
  cases F with
  | zero =>
   have : t = 0 := by omega
   subst this
   rw [decide_eq_true rfl, br_true]
   unfold firstB
   rw [a1, if_neg c1, a4, c2, Bool.not_true, if_neg (by decide)]
   rfl
  | succ F =>
   conv => rhs; unfold firstB
   rw [a1, if_neg c1, a4, c2, Bool.not_true, if_neg (by decide)]
   by_cases he : F + 1 = t
   ·rw [decide_eq_true (by rw [he]), br_true, if_pos he]
    rfl
   ·rw [decide_eq_false (by omega), br_false, if_neg he, halves_B hf (Nat.succ_pos _), bind_s]
    have fl := loB_fit hf (Nat.succ_pos _)
    have fh := hiB_fit hf (Nat.succ_pos _)
    have e1 := first_fuel (v := v) (t := t) hu hl n F (2 * K) (by omega) fl (by omega)
    have e2 := first_fuel (v := v) (t := t) hu hl n F (2 * K + 1) (by omega) fh (by omega)
    have g1 : loB ⟨v, F + 1, K⟩ = ⟨v, F, 2 * K⟩ := rfl
    have g2 : hiB ⟨v, F + 1, K⟩ = ⟨v, F, 2 * K + 1⟩ := rfl
    simp only [g1, g2]
    rw [e1, bind_s, e2]
    cases firstB (used.map toB) v t F (2 * K) with
    | some b => rfl
    | none =>
     show (br false _ _) = _
     rw [br_false, bind_s]
     rfl
theorem R_FirstOf_eq {p : Pf} (hp : rtP p) {used : List Pf} (hu : ∀ q ∈ used, rtP q) (hl : used.length ≤ 1000) {bits : Int} (h1 : p.bits ≤ bits) (h2 : bits ≤ (wid p.ad.v6 : Nat)) :
  R_FirstOf_t p used bits = some (match cutFirst (nP (diffB [toB p] (used.map toB))) bits with | some q => (q, true, ()) | none => (pfZ, false, ())) := by
 obtain ⟨b0, b1⟩ := chkP_bits hp.2
 have hf := toB_fit hp
 have hF := fit_f hf
 obtain ⟨t, ht⟩ : ∃ t, t = wid p.ad.v6 - bits.toNat := ⟨_, rfl⟩
 have hbt : bits = ((wid p.ad.v6 - t : Nat) : Int) := by omega
 have htF : t ≤ (toB p).f := by
  show t ≤ wid p.ad.v6 - p.bits.toNat
  omega
 have e := first_fuel hu hl (v := (toB p).v) (t := t) RECN (toB p).f (toB p).k (by unfold RECN; omega) hf htF
 rw [show (⟨(toB p).v, (toB p).f, (toB p).k⟩ : Bk) = toB p from rfl, ofB_toB hp, show (toB p).v = p.ad.v6 from rfl, ← hbt] at e
 unfold R_FirstOf_t
 rw [e, firstB_canon _ _ htF]
 have hw : normC (diffB [toB p] (used.map toB)) = canon p.ad.v6 (fun n => ¬ covB (used.map toB) p.ad.v6 n) (toB p).f (toB p).k := by
  rw [norm_within hf (fun v n hd => covB_one.1 hd.1)]
  refine canon_congr fun n g1 g2 => ?_
  unfold diffB
  exact ⟨fun hh => hh.2, fun hh => ⟨covB_one.2 ⟨rfl, g1, g2⟩, hh⟩⟩
 unfold cutFirst nP
 rw [hw]
 have hall : ∀ b ∈ canon p.ad.v6 (fun n => ¬ covB (used.map toB) p.ad.v6 n) (toB p).f (toB p).k, b.v = p.ad.v6 ∧ b.f ≤ wid p.ad.v6 := fun b hb => ⟨canon_v hb, Nat.le_trans (canon_f hb) hf.1⟩
 generalize canon p.ad.v6 (fun n => ¬ covB (used.map toB) p.ad.v6 n) (toB p).f (toB p).k = X at hall ⊢
 clear e hw
 induction X with
 | nil => rfl
 | cons x r ih =>
  obtain ⟨xv, xf⟩ := hall x List.mem_cons_self
  have ih' := ih fun b hb => hall b (List.mem_cons_of_mem _ hb)
  rw [List.map_cons, List.find?_cons, List.find?_cons]
  have hd : decide (t ≤ x.f) = decide ((ofB x).bits ≤ bits) := by
   rw [decide_eq_decide]
   show t ≤ x.f ↔ ((wid x.v - x.f : Nat) : Int) ≤ bits
   rw [xv]
   omega
  rw [hd]
  by_cases hx : (ofB x).bits ≤ bits
  ·rw [decide_eq_true hx]
   have htx : t ≤ x.f := decide_eq_true_iff.1 (hd.trans (decide_eq_true hx))
   have := part_B p.ad.v6 htx x.k
   rw [← hbt, show (⟨p.ad.v6, x.f, x.k⟩ : Bk) = x by rw [← xv]] at this
   simp only [Option.map_some, partB, fOut]
   rw [this]
  ·rw [decide_eq_false hx]
   exact ih'
end Go.Ma
namespace Go.Ma
open Go
theorem less_run {l : List Pf} (h : ∀ q ∈ l, rtP q) (b : Bk) : nP (diffB (l.map toB) [b]) = (shortS ((sortP ((lessB b (l.map toB)).map ofB)).map toB)).map ofB := by
 have e := less_norm (lessB_right h b) (p := b) (l := l.map toB) (toB_ofB_map (lessB_fit _ (fits_of h)))
 unfold nP
 rw [← e]
theorem netP_rt {n b : Nat} (hn : n < 1000000000) (hb : b < 1000) (hc : chkP (netP n b) = 0) : rtP (netP n b) := ⟨netP_in hn hb, hc⟩
theorem pb_less1 : (shortS ((sortP ((lessB (toB (netP 1 32)) ([netP 0 29].map toB)).map ofB)).map toB)).map ofB = [netP 0 32, netP 2 31, netP 4 30] := by decide +kernel
theorem pb_less2 : (shortS ((sortP ((lessB (toB (netP 4 31)) ([netP 0 32, netP 2 31, netP 4 30].map toB)).map ofB)).map toB)).map ofB = [netP 0 32, netP 2 31, netP 6 31] := by decide +kernel
theorem pb_in : (netP 0 29).In ∧ tabIn [netP 1 32, netP 4 31] := by
 refine ⟨netP_in (by omega) (by omega), fun p hp => ?_⟩
 simp only [List.mem_cons, List.not_mem_nil, or_false] at hp
 rcases hp with rfl | rfl <;> exact netP_in (by omega) (by omega)
theorem pb_left : nP (diffB [toB (netP 0 29)] ([netP 1 32, netP 4 31].map toB)) = [netP 0 32, netP 2 31, netP 6 31] := by
 have r0 : ∀ q ∈ [netP 0 29], rtP q := fun q hq => by
  simp only [List.mem_cons, List.not_mem_nil, or_false] at hq
  subst hq
  exact netP_rt (by omega) (by omega) (by decide +kernel)
 have r1 : ∀ q ∈ [netP 0 32, netP 2 31, netP 4 30], rtP q := fun q hq => by
  simp only [List.mem_cons, List.not_mem_nil, or_false] at hq
  rcases hq with rfl | rfl | rfl <;> exact netP_rt (by omega) (by omega) (by decide +kernel)
 have e1 := less_run r0 (toB (netP 1 32))
 rw [pb_less1] at e1
 have e2 := less_run r1 (toB (netP 4 31))
 rw [pb_less2] at e2
 have e3 : normC (diffB [toB (netP 0 29)] [toB (netP 1 32)]) = [netP 0 32, netP 2 31, netP 4 30].map toB := by
  rw [← e1]
  exact (nP_toB _).symm
 have e4 := diff_step (toB (netP 0 29)) (toB (netP 4 31)) [toB (netP 1 32)]
 rw [e3] at e4
 have e5 : nP (diffB [toB (netP 0 29)] ([netP 1 32, netP 4 31].map toB)) = nP (diffB ([netP 0 32, netP 2 31, netP 4 30].map toB) [toB (netP 4 31)]) := congrArg (List.map ofB) e4.symm
 rw [e5, e2]
theorem pb_rdy : rdyP (netP 0 29) [netP 1 32, netP 4 31] = 0 := by decide +kernel
theorem pb_rdy1 : rdyF (netP 0 29) [netP 1 32, netP 4 31] 31 = 0 := by decide +kernel
theorem pb_rdy0 : rdyF (netP 0 29) [netP 1 32, netP 4 31] 30 = 0 := by decide +kernel
theorem pb_cut1 : cutFirst [netP 0 32, netP 2 31, netP 6 31] 31 = some (netP 2 31) := by decide +kernel
theorem pb_cut0 : cutFirst [netP 0 32, netP 2 31, netP 6 31] 30 = none := by decide +kernel
theorem pickBegun_eq : law_pickBegun_t = some (true, ()) := by
 have n1 : law_net_t 0 29 = some (netP 0 29, ()) := rfl
 have n2 : law_net_t 1 32 = some (netP 1 32, ()) := rfl
 have n3 : law_net_t 4 31 = some (netP 4 31, ()) := rfl
 have n4 : law_net_t 0 32 = some (netP 0 32, ()) := rfl
 have n5 : law_net_t 2 31 = some (netP 2 31, ()) := rfl
 have n6 : law_net_t 6 31 = some (netP 6 31, ()) := rfl
 have f1 : pick_Free_t (netP 0 29) ([netP 1 32, netP 4 31] : List Pf) = some ([netP 0 32, netP 2 31, netP 6 31], 0, ()) := by
  rw [pick_Free_eq pb_in.1 pb_in.2]
  unfold freeT
  rw [if_neg (fun hh => hh pb_rdy), pb_left]
 have f2 : pick_First_t (netP 0 29) ([netP 1 32, netP 4 31] : List Pf) 31 = some (netP 2 31, 0, ()) := by
  rw [pick_First_eq pb_in.1 pb_in.2]
  unfold firstT
  rw [if_neg (fun hh => hh pb_rdy1), pb_left, pb_cut1]
  rfl
 have f3 : pick_First_t (netP 0 29) ([netP 1 32, netP 4 31] : List Pf) 30 = some (pfZ, 8, ()) := by
  rw [pick_First_eq pb_in.1 pb_in.2]
  unfold firstT
  rw [if_neg (fun hh => hh pb_rdy0), pb_left, pb_cut0]
  rfl
 have s1 : R_SamePrefixes_t [netP 0 32, netP 2 31, netP 6 31] ([netP 0 32, netP 2 31, netP 6 31] : List Pf) = some (true, ()) := by rw [R_SamePrefixes_eq (by simp), decide_eq_true rfl]
 have s2 : eqPf (netP 2 31) (netP 2 31) = true := by rw [eqPf_eq]; exact decide_eq_true rfl
 unfold law_pickBegun_t
 simp only [n1, n2, n3, bind_s, f1, f2, f3, n4, n5, n6, s1, s2, decide_true, br_true]
theorem left_len {p : Pf} (h : rtP p) {used : List Pf} (hu : ∀ q ∈ used, rtP q) (hl : used.length ≤ 12) : (nP (diffB [toB p] (used.map toB))).length < 9223372036854775807 := by
 have := (left_sizes h hu used.length (Nat.le_refl _)).2
 rw [List.take_length] at this
 omega
theorem PickTells_eq {p : Pf} {used : List Pf} (hp : p.In) (hu : tabIn used) (bits : Int) : law_PickTells_t p used bits = some (true, ()) := by
 unfold law_PickTells_t
 rw [pick_Free_eq hp hu, bind_s, pick_First_eq hp hu, bind_s, R_CheckPrefix_eq hp, bind_s, R_CheckList_eq hu]
 have hz : (([] : List Pf)).length < 9223372036854775807 := by decide
 have hzz : eqPf pfZ pfZ = true := by rw [eqPf_eq]; exact decide_eq_true rfl
 have hzd : (⟨⟨false, 0, 0⟩, 0⟩ : Pf) = pfZ := rfl
 by_cases hr : rdyP p used = 0
 rotate_left
 ·have e1 : freeT p used = ([], rdyP p used, ()) := by unfold freeT; rw [if_pos hr]
  have e2 : firstT p used bits = (pfZ, rdyP p used, ()) := by
   have : rdyF p used bits = rdyP p used := by unfold rdyF; rw [if_pos hr]
   unfold firstT
   rw [this, if_pos hr]
  rw [e1, e2]
  by_cases hc : chkP p = 0
  ·have e3 : rdyP p used = chkL used := by unfold rdyP; rw [if_neg (fun hh => hh hc)]
   rw [e3] at hr ⊢
   simp only [decide_eq_true hc, br_true, bind_s, decide_eq_false hr, br_false, hzd, pickBegun_eq, prefixesAre_eq hz, if_pos hr, decide_true, Bool.and_self, hzz]
  ·have e3 : rdyP p used = chkP p := by unfold rdyP; rw [if_pos hc]
   rw [e3] at hr ⊢
   simp only [decide_eq_false hc, bind_s, br_false, hzd, pickBegun_eq, br_true, prefixesAre_eq hz, if_pos hr, decide_true, Bool.and_self, hzz]
 obtain ⟨h1, h2, h3⟩ := rdyP_ok hp hu hr
 have hc := h1.2
 have hcl : chkL used = 0 := by
  have := hr
  unfold rdyP at this
  rwa [if_neg (fun hh => hh hc)] at this
 have e1 : freeT p used = (nP (diffB [toB p] (used.map toB)), 0, ()) := by unfold freeT; rw [if_neg (fun hh => hh hr)]
 have hN : R_NormOf_t [p] used = some (nP (diffB [toB p] (used.map toB)), ()) := R_NormOf_eq (sm := [p]) (fun q hq => by simp only [List.mem_singleton] at hq; subst hq; exact h1) h3 (by simp) (by omega)
 have hL := left_len h1 h3 h2
 have hbits : lenS (ofBytes (bitsA p.ad)) = ((wid p.ad.v6 : Nat) : Int) := by unfold lenS; rw [ofBytes_size, bitsA_len]
 rw [e1]
 by_cases hb : bits < p.bits ∨ ((wid p.ad.v6 : Nat) : Int) < bits
 ·have e : (decide (bits < p.bits) || decide (bits > ((wid p.ad.v6 : Nat) : Int))) = true := by
   rw [Bool.or_eq_true, decide_eq_true_iff, decide_eq_true_iff]; exact hb
  have e2 : firstT p used bits = (pfZ, 3, ()) := by
   have : rdyF p used bits = 3 := by unfold rdyF; rw [if_neg (fun hh => hh hr), if_pos hb]
   unfold firstT
   rw [this]
   rfl
  have d3 : decide ((3 : Int) = 0) = false := rfl
  rw [e2]
  simp only [hc, hcl, decide_true, br_true, bind_s, R_Bits_eq h1.1.1, hbits, br_or, e, hN, hzd, d3, br_false, pickBegun_eq, prefixesAre_eq hL, ne_eq, not_true, if_false, Bool.and_self, hzz]
  rfl
 ·have e : (decide (bits < p.bits) || decide (bits > ((wid p.ad.v6 : Nat) : Int))) = false := by
   rw [Bool.or_eq_false_iff, decide_eq_false_iff_not, decide_eq_false_iff_not]; exact ⟨fun g => hb (.inl g), fun g => hb (.inr g)⟩
  have hf := R_FirstOf_eq h1 h3 (by omega) (show p.bits ≤ bits by omega) (show bits ≤ ((wid p.ad.v6 : Nat) : Int) by omega)
  have e2 : firstT p used bits = firstOut (cutFirst (nP (diffB [toB p] (used.map toB))) bits) := by
   have : rdyF p used bits = 0 := by unfold rdyF; rw [if_neg (fun hh => hh hr), if_neg hb]
   unfold firstT
   rw [this]
   rfl
  rw [e2]
  cases hx : cutFirst (nP (diffB [toB p] (used.map toB))) bits with
  | none =>
   rw [hx] at hf
   simp only [firstOut, hc, hcl, decide_true, br_true, bind_s, R_Bits_eq h1.1.1, hbits, br_or, e, br_false, hN, hf, Bool.not_false, hzd, pickBegun_eq, prefixesAre_eq hL, ne_eq, not_true, if_false, Bool.and_self, hzz]
   rfl
  | some q =>
   rw [hx] at hf
   have hq : eqPf q q = true := by rw [eqPf_eq]; exact decide_eq_true rfl
   simp only [firstOut, hc, hcl, decide_true, br_true, bind_s, R_Bits_eq h1.1.1, hbits, br_or, e, br_false, hN, hf, Bool.not_true, hzd, pickBegun_eq, prefixesAre_eq hL, ne_eq, not_true, if_false, Bool.and_self, hq]
   rfl
end Go.Ma
namespace Go.Proofs.Ytjlkgfdnepfbiaa
open Go Go.Ma
def noTi : TI := { known := false, kind := .other, agg := false, size := 0, zero := [], fields := [], elem := 0 }
def ti_1 : TI := { kind := .other, agg := false, size := 1, zero := [.nilFunc], fields := [], elem := 0, bytes := 8, eq := false, k := none }
def ti_2 : TI := { kind := (.int .i64), agg := false, size := 1, zero := [.int .i64 0], fields := [], elem := 0, bytes := 8, eq := false, k := some .int }
def ti_3 : TI := ti_2
def ti_4 : TI := { kind := .bool, agg := false, size := 1, zero := [.bool false], fields := [], elem := 0, bytes := 1, eq := false, k := some .bool }
def ti_5 : TI := { kind := (.int .u8), agg := false, size := 1, zero := [.int .u8 0], fields := [], elem := 0, bytes := 1, eq := false, k := some .u8 }
def ti_6 : TI := ti_5
def ti_7 : TI := { kind := .struct, agg := true, size := 4, zero := [.int .i64 0, .int .i64 0, .bool false, .int .u8 0], fields := [(0, 2), (1, 3), (2, 4), (3, 6)], elem := 0, bytes := 24, eq := false, k := none }
def ti_8 : TI := ti_7
def ti_9 : TI := { kind := .str, agg := false, size := 1, zero := [.string .empty], fields := [], elem := 0, bytes := 16, eq := false, k := some .str }
def ti_10 : TI := ti_9
def ti_11 : TI := ti_9
def ti_12 : TI := { kind := (.int .u64), agg := false, size := 1, zero := [.int .u64 0], fields := [], elem := 0, bytes := 8, eq := false, k := some .u64 }
def ti_13 : TI := { kind := .struct, agg := true, size := 2, zero := [.string .empty, .int .u64 0], fields := [(0, 9), (1, 12)], elem := 0, bytes := 24, eq := false, k := none }
def ti_14 : TI := ti_13
def ti_15 : TI := { kind := .other, agg := false, size := 1, zero := [.pointer none], fields := [], elem := 0, bytes := 8, eq := false, k := none }
def ti_16 : TI := ti_15
def ti_17 : TI := ti_15
def ti_18 : TI := { kind := .struct, agg := true, size := 1, zero := [.pointer none], fields := [(0, 17)], elem := 0, bytes := 8, eq := false, k := none }
def ti_19 : TI := ti_18
def ti_20 : TI := { kind := .other, agg := false, size := 1, zero := [.nilIface], fields := [], elem := 0, bytes := 16, eq := false, k := none }
def ti_21 : TI := { kind := (.int .i32), agg := false, size := 1, zero := [.int .i32 0], fields := [], elem := 0, bytes := 4, eq := false, k := none }
def ti_22 : TI := { kind := .slice, agg := false, size := 1, zero := [.slice none 0 0], fields := [], elem := 27, bytes := 24, eq := false, k := none, sl := [(0, .inl .pfx, 27)] }
def ti_23 : TI := ti_12
def ti_24 : TI := { kind := .struct, agg := true, size := 3, zero := [.bool false, .int .u64 0, .int .u64 0], fields := [(0, 4), (1, 23), (2, 23)], elem := 0, bytes := 24, eq := false, k := none }
def ti_25 : TI := { kind := .struct, agg := true, size := 3, zero := [.bool false, .int .u64 0, .int .u64 0], fields := [(0, 4), (1, 23), (2, 23)], elem := 0, bytes := 24, eq := true, k := some .addr }
def ti_26 : TI := { kind := .struct, agg := true, size := 4, zero := [.bool false, .int .u64 0, .int .u64 0, .int .i64 0], fields := [(0, 25), (3, 3)], elem := 0, bytes := 32, eq := false, k := none }
def ti_27 : TI := { kind := .struct, agg := true, size := 4, zero := [.bool false, .int .u64 0, .int .u64 0, .int .i64 0], fields := [(0, 25), (3, 3)], elem := 0, bytes := 32, eq := true, k := some .pfx }
def ti_28 : TI := ti_2
def ti_30 : TI := ti_1
def ti_32 : TI := ti_1
def ti_33 : TI := ti_1
def ti_34 : TI := ti_1
def ti_35 : TI := ti_1
def ti_36 : TI := ti_1
def ti_37 : TI := ti_1
def ti_38 : TI := ti_1
def ti_39 : TI := ti_1
def ti_40 : TI := ti_1
def ti_41 : TI := ti_1
def ti_42 : TI := ti_1
def ti_44 : TI := ti_1
def ti_45 : TI := ti_1
def ti_47 : TI := ti_1
def ti_48 : TI := ti_1
def ti_49 : TI := ti_1
def ti_50 : TI := ti_1
def ti_51 : TI := ti_1
def ti_52 : TI := ti_1
def ti_53 : TI := ti_1
def ti_54 : TI := ti_1
def ti_55 : TI := ti_1
def ti_56 : TI := ti_1
def ti_57 : TI := ti_1
def ti_58 : TI := ti_1
def ti_59 : TI := ti_1
def ti_60 : TI := ti_1
def ti_61 : TI := ti_1
def ti_62 : TI := { kind := .slice, agg := false, size := 1, zero := [.slice none 0 0], fields := [], elem := 5, bytes := 24, eq := false, k := none, sl := [(0, .inl .u8, 5)] }
def ti_63 : TI := ti_1
def ti_65 : TI := ti_1
def ti_66 : TI := ti_15
def ti_67 : TI := { kind := .struct, agg := true, size := 1, zero := [.slice none 0 0], fields := [(0, 22)], elem := 0, bytes := 24, eq := false, k := none, sl := [(0, .inl .pfx, 27)] }
def ti_68 : TI := ti_67
def ti_69 : TI := ti_1
def ti_70 : TI := ti_1
def ti_71 : TI := ti_1
def ti_72 : TI := ti_1
def ti_73 : TI := ti_1
def ti_74 : TI := ti_1
def ti_75 : TI := ti_1
def ti_76 : TI := ti_1
def ti_77 : TI := ti_12
def ti_78 : TI := ti_1
def ti_79 : TI := ti_1
def ti_80 : TI := ti_1
def ti_81 : TI := ti_2
def ti_83 : TI := ti_1
def ti_84 : TI := ti_1
def ti_85 : TI := ti_1
def ti_87 : TI := ti_1
def ti_88 : TI := ti_1
def ti_89 : TI := { kind := (.int .u32), agg := false, size := 1, zero := [.int .u32 0], fields := [], elem := 0, bytes := 4, eq := false, k := none }
def ti_90 : TI := ti_1
def ti_91 : TI := ti_1
def ti_93 : TI := ti_1
def ti_94 : TI := ti_1
def ti_95 : TI := ti_12
def ti_96 : TI := ti_1
def ti_97 : TI := ti_1
def ti_98 : TI := ti_1
def ti_99 : TI := ti_15
def ti_100 : TI := ti_1
def ti_101 : TI := ti_15
def ti_103 : TI := ti_1
def ti_104 : TI := ti_1
def ti_105 : TI := { kind := .struct, agg := true, size := 4, zero := [.pointer none, .pointer none, .pointer none, .string .empty], fields := [(0, 17), (1, 17), (2, 17), (3, 9)], elem := 0, bytes := 40, eq := false, k := none }
def ti_106 : TI := ti_105
def ti_107 : TI := { kind := .other, agg := true, size := 0, zero := [], fields := [], elem := 16, bytes := 0, eq := false, k := none }
def ti_108 : TI := { kind := .struct, agg := true, size := 0, zero := [], fields := [(0, 107)], elem := 0, bytes := 0, eq := false, k := none }
def ti_109 : TI := ti_108
def ti_110 : TI := ti_1
def ti_111 : TI := ti_5
def ti_112 : TI := ti_5
def ti_113 : TI := ti_1
def ti_114 : TI := ti_15
def ti_115 : TI := ti_21
def ti_116 : TI := ti_21
def ti_117 : TI := { kind := .struct, agg := true, size := 11, zero := [.int .u64 0, .int .u64 0, .int .u32 0, .int .u8 0, .int .u8 0, .int .u8 0, .int .u8 0, .nilFunc, .pointer none, .int .i32 0, .int .i32 0], fields := [(0, 12), (1, 12), (2, 89), (3, 111), (4, 5), (5, 5), (6, 112), (7, 113), (8, 114), (9, 115), (10, 116)], elem := 0, bytes := 48, eq := false, k := none }
def ti_118 : TI := ti_117
def ti_119 : TI := ti_15
def ty (t : Nat) : TI := bif Nat.blt t 128 then (bif Nat.blt t 64 then (bif Nat.blt t 32 then (bif Nat.blt t 16 then (bif Nat.blt t 8 then (bif Nat.blt t 4 then (bif Nat.blt t 2 then (bif Nat.blt t 1 then noTi else ti_1) else (bif Nat.blt t 3 then ti_2 else ti_3)) else (bif Nat.blt t 6 then (bif Nat.blt t 5 then ti_4 else ti_5) else (bif Nat.blt t 7 then ti_6 else ti_7))) else (bif Nat.blt t 12 then (bif Nat.blt t 10 then (bif Nat.blt t 9 then ti_8 else ti_9) else (bif Nat.blt t 11 then ti_10 else ti_11)) else (bif Nat.blt t 14 then (bif Nat.blt t 13 then ti_12 else ti_13) else (bif Nat.blt t 15 then ti_14 else ti_15)))) else (bif Nat.blt t 24 then (bif Nat.blt t 20 then (bif Nat.blt t 18 then (bif Nat.blt t 17 then ti_16 else ti_17) else (bif Nat.blt t 19 then ti_18 else ti_19)) else (bif Nat.blt t 22 then (bif Nat.blt t 21 then ti_20 else ti_21) else (bif Nat.blt t 23 then ti_22 else ti_23))) else (bif Nat.blt t 28 then (bif Nat.blt t 26 then (bif Nat.blt t 25 then ti_24 else ti_25) else (bif Nat.blt t 27 then ti_26 else ti_27)) else (bif Nat.blt t 30 then (bif Nat.blt t 29 then ti_28 else noTi) else (bif Nat.blt t 31 then ti_30 else noTi))))) else (bif Nat.blt t 48 then (bif Nat.blt t 40 then (bif Nat.blt t 36 then (bif Nat.blt t 34 then (bif Nat.blt t 33 then ti_32 else ti_33) else (bif Nat.blt t 35 then ti_34 else ti_35)) else (bif Nat.blt t 38 then (bif Nat.blt t 37 then ti_36 else ti_37) else (bif Nat.blt t 39 then ti_38 else ti_39))) else (bif Nat.blt t 44 then (bif Nat.blt t 42 then (bif Nat.blt t 41 then ti_40 else ti_41) else (bif Nat.blt t 43 then ti_42 else noTi)) else (bif Nat.blt t 46 then (bif Nat.blt t 45 then ti_44 else ti_45) else (bif Nat.blt t 47 then noTi else ti_47)))) else (bif Nat.blt t 56 then (bif Nat.blt t 52 then (bif Nat.blt t 50 then (bif Nat.blt t 49 then ti_48 else ti_49) else (bif Nat.blt t 51 then ti_50 else ti_51)) else (bif Nat.blt t 54 then (bif Nat.blt t 53 then ti_52 else ti_53) else (bif Nat.blt t 55 then ti_54 else ti_55))) else (bif Nat.blt t 60 then (bif Nat.blt t 58 then (bif Nat.blt t 57 then ti_56 else ti_57) else (bif Nat.blt t 59 then ti_58 else ti_59)) else (bif Nat.blt t 62 then (bif Nat.blt t 61 then ti_60 else ti_61) else (bif Nat.blt t 63 then ti_62 else ti_63)))))) else (bif Nat.blt t 96 then (bif Nat.blt t 80 then (bif Nat.blt t 72 then (bif Nat.blt t 68 then (bif Nat.blt t 66 then (bif Nat.blt t 65 then noTi else ti_65) else (bif Nat.blt t 67 then ti_66 else ti_67)) else (bif Nat.blt t 70 then (bif Nat.blt t 69 then ti_68 else ti_69) else (bif Nat.blt t 71 then ti_70 else ti_71))) else (bif Nat.blt t 76 then (bif Nat.blt t 74 then (bif Nat.blt t 73 then ti_72 else ti_73) else (bif Nat.blt t 75 then ti_74 else ti_75)) else (bif Nat.blt t 78 then (bif Nat.blt t 77 then ti_76 else ti_77) else (bif Nat.blt t 79 then ti_78 else ti_79)))) else (bif Nat.blt t 88 then (bif Nat.blt t 84 then (bif Nat.blt t 82 then (bif Nat.blt t 81 then ti_80 else ti_81) else (bif Nat.blt t 83 then noTi else ti_83)) else (bif Nat.blt t 86 then (bif Nat.blt t 85 then ti_84 else ti_85) else (bif Nat.blt t 87 then noTi else ti_87))) else (bif Nat.blt t 92 then (bif Nat.blt t 90 then (bif Nat.blt t 89 then ti_88 else ti_89) else (bif Nat.blt t 91 then ti_90 else ti_91)) else (bif Nat.blt t 94 then (bif Nat.blt t 93 then noTi else ti_93) else (bif Nat.blt t 95 then ti_94 else ti_95))))) else (bif Nat.blt t 112 then (bif Nat.blt t 104 then (bif Nat.blt t 100 then (bif Nat.blt t 98 then (bif Nat.blt t 97 then ti_96 else ti_97) else (bif Nat.blt t 99 then ti_98 else ti_99)) else (bif Nat.blt t 102 then (bif Nat.blt t 101 then ti_100 else ti_101) else (bif Nat.blt t 103 then noTi else ti_103))) else (bif Nat.blt t 108 then (bif Nat.blt t 106 then (bif Nat.blt t 105 then ti_104 else ti_105) else (bif Nat.blt t 107 then ti_106 else ti_107)) else (bif Nat.blt t 110 then (bif Nat.blt t 109 then ti_108 else ti_109) else (bif Nat.blt t 111 then ti_110 else ti_111)))) else (bif Nat.blt t 120 then (bif Nat.blt t 116 then (bif Nat.blt t 114 then (bif Nat.blt t 113 then ti_112 else ti_113) else (bif Nat.blt t 115 then ti_114 else ti_115)) else (bif Nat.blt t 118 then (bif Nat.blt t 117 then ti_116 else ti_117) else (bif Nat.blt t 119 then ti_118 else ti_119))) else (bif Nat.blt t 124 then (bif Nat.blt t 122 then (bif Nat.blt t 121 then noTi else noTi) else (bif Nat.blt t 123 then noTi else noTi)) else (bif Nat.blt t 126 then (bif Nat.blt t 125 then noTi else noTi) else (bif Nat.blt t 127 then noTi else noTi))))))) else noTi
theorem ty_dflt (t : Nat) (h : 128 ≤ t) : ty t = noTi := by
 have e : Nat.blt t 128 = false := by
  cases hb : Nat.blt t 128
  ·rfl
  ·have := Nat.le_of_ble_eq_true hb
   omega
 unfold ty
 rw [e]
 rfl
def tyKnown : List Nat := [1, 2, 3, 4, 5, 6, 7, 8, 9, 10, 11, 12, 13, 14, 15, 16, 17, 18, 19, 20, 21, 22, 23, 24, 25, 26, 27, 28, 30, 32, 33, 34, 35, 36, 37, 38, 39, 40, 41, 42, 44, 45, 47, 48, 49, 50, 51, 52, 53, 54, 55, 56, 57, 58, 59, 60, 61, 62, 63, 65, 66, 67, 68, 69, 70, 71, 72, 73, 74, 75, 76, 77, 78, 79, 80, 81, 83, 84, 85, 87, 88, 89, 90, 91, 93, 94, 95, 96, 97, 98, 99, 100, 101, 103, 104, 105, 106, 107, 108, 109, 110, 111, 112, 113, 114, 115, 116, 117, 118, 119]
theorem ty_list : tyKnown.map (fun t => ({ ty t with eq := false, k := none, nk := none, sl := [] } : TI)) = tyKnown.map (tiOf Try.prog) := by kernel_rfl
theorem ty_in : (List.range 128).all (fun t => !(ty t).known || tyKnown.contains t) = true := by kernel_rfl
theorem ty_fact (t : Nat) (h : (ty t).known = true) : TyFact Try.prog t (ty t) := by
 refine tyFact_of h ?_
 have hlt : t < 128 := by
  rcases Nat.lt_or_ge t 128 with h' | h'
  ·exact h'
  ·have : (ty t) = noTi := ty_dflt t h'
   rw [this] at h
   cases h
 have h1 := List.all_eq_true.1 ty_in t (List.mem_range.2 hlt)
 rw [h] at h1
 have hmem : t ∈ tyKnown := by simpa using h1
 have := List.map_inj_left.1 ty_list t hmem
 exact this
theorem eq_25 : StructEq Try.prog 25 (ty 25).zero := structEq ty_fact 25 (ty 25).zero (by kernel_rfl) (by kernel_rfl) (by kernel_rfl)
theorem eq_27 : StructEq Try.prog 27 (ty 27).zero := structEq ty_fact 27 (ty 27).zero (by kernel_rfl) (by kernel_rfl) (by kernel_rfl)
def tyEqs : List Nat := [25, 27]
theorem eq_in : (List.range 128).all (fun t => !(ty t).eq || tyEqs.contains t) = true := by kernel_rfl
theorem ty_eq (t : Nat) (h : (ty t).eq = true) : StructEq Try.prog t (ty t).zero := by
 have hlt : t < 128 := by
  rcases Nat.lt_or_ge t 128 with h' | h'
  ·exact h'
  ·rw [ty_dflt t h'] at h
   cases h
 have h1 := List.all_eq_true.1 eq_in t (List.mem_range.2 hlt)
 rw [h] at h1
 have hmem : t ∈ tyEqs := by simpa using h1
 simp only [tyEqs, List.mem_cons, List.not_mem_nil, or_false] at hmem
 rcases hmem with rfl | rfl
 ·exact eq_25
 ·exact eq_27
theorem tyOk : TOk Try.prog ty := ⟨ty_fact, ty_eq, by kernel_rfl⟩
def fnExt : List Nat := [0, 1, 75, 76, 77, 78, 79, 80, 81, 82, 83, 84, 85, 86, 87, 88, 89, 90]
def fnB (f : Nat) : Bool := decide (f < 91) && !fnExt.contains f
theorem fn_all : (List.range 91).all (fun f => !fnB f || (match Try.prog.funcs[f]? with | some fn => fn.body.isSome && !(fn.name == "runtime.NumGoroutine") | none => false)) = true := by kernel_rfl
theorem fn_ok (f : Nat) (h : fnB f = true) : HasBody Try.prog f := by
 have hlt : f < 91 := by
  unfold fnB at h
  simp only [Bool.and_eq_true, decide_eq_true_eq] at h
  exact h.1
 have h1 := List.all_eq_true.1 fn_all f (List.mem_range.2 hlt)
 rw [h] at h1
 simp only [Bool.not_true, Bool.false_or] at h1
 unfold HasBody
 cases hf : Try.prog.funcs[f]? with
 | none => rw [hf] at h1; cases h1
 | some fn =>
  rw [hf] at h1
  simp only [Bool.and_eq_true, Bool.not_eq_true'] at h1
  exact ⟨fn, rfl, h1.1, h1.2⟩
end Go.Proofs.Ytjlkgfdnepfbiaa
