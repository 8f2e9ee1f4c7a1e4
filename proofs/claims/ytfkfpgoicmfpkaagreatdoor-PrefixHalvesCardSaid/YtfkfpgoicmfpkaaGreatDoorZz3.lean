/-
  Parts: Pl Pc Pf Po Qa Qf Qk Qp Qc Pm Ca Cf Ph Ce Pi Pj Pk Cb Cd Pw La Pv Lb Lc Ld Le Lg Lh Li Lo Lm Pd Pe Pg Sa Cc Sb Vc Vd Ve Vf Vg Sc Sd Se Sf Sg Sh Vh Vi Vj Wa Wb Wc Wd We Wf Wg Wh Wi Wj.
-/
import Derived.Lib.Split
import Derived.Lib.SplitLaws
import Derived.Lib.Join
import Derived.Lib.ItoaNum
import Derived.Lib.Atoi
import Derived.Lib.ParseIntB
import Derived.Lib.Bytealg
import Derived.Laws.Entries
import Derived.Lib.IndexMore
import Derived.Test.YtfkfpgoicmfpkaaGreatDoorZz2
set_option linter.unusedVariables false
set_option linter.unusedSimpArgs false
namespace Go.Ma
open Go
noncomputable def law_v4_t (a0 : Int) : Option (Ad × Unit) :=
 some ((⟨false, 0, a0⟩ : Ad), ())
noncomputable def law_net_t (a0 : Int) (a1 : Int) : Option (Pf × Unit) :=
 (law_v4_t a0).bind fun y1 =>
 some ((⟨y1.1, a1⟩ : Pf), ())
noncomputable def addr_Check_t (a0 : Ad) : Option (Int × Unit) :=
 (br (!a0.v6)
   (br (!decide (a0.hi = 0))
    (some true)
    (some (decide (a0.lo ≥ 4294967296))))
   (some false)).bind fun c1 =>
 br c1
  (some (3, ()))
  (some (0, ()))
noncomputable def prefix_Wide_t (a0 : Ad) : Option (Int × Unit) :=
 br a0.v6
  (some (128, ()))
  (some (32, ()))
noncomputable def prefix_mask_t (a0 : Ad) (a1 : Int) : Option (Ad × Unit) :=
 (prefix_Wide_t a0).bind fun y1 =>
 req (i64ok (y1.1 - a1)) <|
 br (decide (y1.1 - a1 < 64))
  (req (decide (0 ≤ y1.1 - a1)) <|
  br (decide (y1.1 - a1 > 64))
   (br (decide (y1.1 - a1 < 128))
    (req (i64ok ((y1.1 - a1) - 64)) <|
    req (decide (0 ≤ (y1.1 - a1) - 64)) <|
    some ((⟨a0.v6, aop .sub .u64 (aop .shl .u64 1 ((y1.1 - a1) - 64)) 1, aop .sub .u64 (aop .shl .u64 1 (y1.1 - a1)) 1⟩ : Ad), ()))
    (some ((⟨a0.v6, 18446744073709551615, aop .sub .u64 (aop .shl .u64 1 (y1.1 - a1)) 1⟩ : Ad), ())))
   (some ((⟨a0.v6, 0, aop .sub .u64 (aop .shl .u64 1 (y1.1 - a1)) 1⟩ : Ad), ())))
  (br (decide (y1.1 - a1 > 64))
   (br (decide (y1.1 - a1 < 128))
    (req (i64ok ((y1.1 - a1) - 64)) <|
    req (decide (0 ≤ (y1.1 - a1) - 64)) <|
    some ((⟨a0.v6, aop .sub .u64 (aop .shl .u64 1 ((y1.1 - a1) - 64)) 1, 18446744073709551615⟩ : Ad), ()))
    (some ((⟨a0.v6, 18446744073709551615, 18446744073709551615⟩ : Ad), ())))
   (some ((⟨a0.v6, 0, 18446744073709551615⟩ : Ad), ())))
noncomputable def prefix_Cut_t (a0 : Ad) (a1 : Int) : Option (Ad × Unit) :=
 (prefix_mask_t a0 a1).bind fun y1 =>
 some ((⟨a0.v6, aop .andNot .u64 a0.hi y1.1.hi, aop .andNot .u64 a0.lo y1.1.lo⟩ : Ad), ())
noncomputable def zq20 (a0 : Pf) : Option (Int × Unit) :=
 (addr_Check_t a0.ad).bind fun y1 =>
 br (!decide (y1.1 = 0))
  (some (y1.1, ()))
  ((br (decide (a0.bits < 0))
    (some true)
    ((prefix_Wide_t a0.ad).bind fun y2 =>
    some (decide (a0.bits > y2.1)))).bind fun c2 =>
  br c2
   (some (3, ()))
   ((prefix_Cut_t a0.ad a0.bits).bind fun y3 =>
   br (!(eqAd y3.1 a0.ad))
    (some (4, ()))
    (some (0, ()))))
noncomputable def span_Right_L4 (rec : (((Unit) × (Int × Unit) × (Int × Unit) × Unit) × (List Pf × Unit)) → Option ((((Int × Unit) × Unit) × (List Pf × Unit)) ⊕ ((Unit) × (List Pf × Unit)))) (x : (((Unit) × (Int × Unit) × (Int × Unit) × Unit) × (List Pf × Unit))) : Option ((((Int × Unit) × Unit) × (List Pf × Unit)) ⊕ ((Unit) × (List Pf × Unit))) :=
 let v0 := x.1.2.1.1
 let v1 := x.1.2.2.1.1
 let v2 := x.2.1
 br (decide (v1 < v0))
  (req (inRange v1 (lenL v2)) <|
  (geti v2 v1).bind fun p1 =>
  (zq20 p1).bind fun y2 =>
  br (!decide (y2.1 = 0))
   (some (Sum.inl (((y2.1, ()), ()), (v2, ()))))
   (req (i64ok (v1 + 1)) <|
   rec (((()), (v0, ()), (v1 + 1, ()), ()), (v2, ()))))
  (some (Sum.inr (((()), (v2, ())))))
noncomputable def span_Right_t (a0 : List Pf) : Option (Int × Unit) :=
 br (decide (lenL a0 > 12))
  (some (2, ()))
  ((loopN span_Right_L4 FUEL (((()), (lenL a0, ()), (0, ()), ()), (a0, ()))).bind fun y1 =>
  sumC y1 (fun y2 =>
   some (y2.1.1.1, ())) (fun y3 =>
   some (0, ())))
noncomputable def zq23 (a0 : List Pf) : Option ((List Pf) × Unit) :=
 nilB a0.length
  (some (([] : List Pf), ()))
  (req (room (lenL ([] : List Pf)) (lenL a0)) <|
  some (([] : List Pf) ++ a0, ()))
noncomputable def addr_Order_1_t (a0 : Int) (a1 : Int) : Option (Int × Unit) :=
 br (decide (a0 < a1))
  (some ((-1), ()))
  (br (decide (a0 > a1))
   (some (1, ()))
   (some (0, ())))
noncomputable def addr_Order_t (a0 : Ad) (a1 : Ad) : Option (Int × Unit) :=
 (br (!(beqB a0.v6 a1.v6))
   (some a1.v6)
   (some false)).bind fun c1 =>
 br c1
  (some ((-1), ()))
  (br (!(beqB a0.v6 a1.v6))
   (some (1, ()))
   (br (!decide (a0.hi = a1.hi))
    ((addr_Order_1_t a0.hi a1.hi).bind fun y2 =>
    some (y2.1, ()))
    ((addr_Order_1_t a0.lo a1.lo).bind fun y2 =>
    some (y2.1, ()))))
noncomputable def prefix_Holds_t (a0 : Pf) (a1 : Ad) : Option (Bool × Unit) :=
 (br (beqB a0.ad.v6 a1.v6)
   ((prefix_Cut_t a1 a0.bits).bind fun y1 =>
   some (eqAd y1.1 a0.ad))
   (some false)).bind fun c1 =>
 some (c1, ())
noncomputable def prefix_Over_t (a0 : Pf) (a1 : Pf) : Option (Bool × Unit) :=
 (br (decide (a0.bits ≤ a1.bits))
   ((prefix_Holds_t a0 a1.ad).bind fun y1 =>
   some y1.1)
   (some false)).bind fun c1 =>
 some (c1, ())
noncomputable def prefix_Last_t (a0 : Pf) : Option (Ad × Unit) :=
 (prefix_mask_t a0.ad a0.bits).bind fun y1 =>
 some ((⟨a0.ad.v6, aop .or .u64 a0.ad.hi y1.1.hi, aop .or .u64 a0.ad.lo y1.1.lo⟩ : Ad), ())
noncomputable def addr_After_t (a0 : Ad) : Option (Ad × Bool × Unit) :=
 (br a0.v6
   (some (decide (aop .add .u64 a0.lo 1 = 0)))
   (some false)).bind fun c1 =>
 br c1
  (some ((⟨a0.v6, aop .add .u64 a0.hi 1, aop .add .u64 a0.lo 1⟩ : Ad), !decide (aop .add .u64 a0.hi 1 = 0), ()))
  (br a0.v6
   (both
    (dup 1 <|
    some ((⟨a0.v6, a0.hi, aop .add .u64 a0.lo 1⟩ : Ad), true, ()))
    (some ((⟨a0.v6, a0.hi, aop .add .u64 a0.lo 1⟩ : Ad), true, ())))
   (some ((⟨a0.v6, a0.hi, aop .add .u64 a0.lo 1⟩ : Ad), decide (aop .add .u64 a0.lo 1 < 4294967296), ())))
noncomputable def prefix_Split_t (a0 : Pf) : Option (Pf × Pf × Unit) :=
 req (i64ok (a0.bits + 1)) <|
 (prefix_Last_t (⟨a0.ad, a0.bits + 1⟩ : Pf)).bind fun y1 =>
 (addr_After_t y1.1).bind fun y2 =>
 req (i64ok (a0.bits + 1)) <|
 some ((⟨a0.ad, a0.bits + 1⟩ : Pf), (⟨y2.1, a0.bits + 1⟩ : Pf), ())
noncomputable def prefix_Joined_t (a0 : Pf) (a1 : Pf) : Option (Pf × Bool × Unit) :=
 (br (decide (a0.bits = 0))
   (some true)
   (some (!decide (a0.bits = a1.bits)))).bind fun c1 =>
 (br c1
   (some true)
   (some (!(beqB a0.ad.v6 a1.ad.v6)))).bind fun c2 =>
 br c2
  (some ((⟨(⟨false, 0, 0⟩ : Ad), 0⟩ : Pf), false, ()))
  (req (i64ok (a0.bits - 1)) <|
  req (i64ok (a0.bits - 1)) <|
  dup 1 <|
  (prefix_Cut_t a0.ad (a0.bits - 1)).bind fun y3 =>
  (prefix_Split_t (⟨y3.1, a0.bits - 1⟩ : Pf)).bind fun y4 =>
  br (eqPf y4.1 a0)
   (some ((⟨y3.1, a0.bits - 1⟩ : Pf), eqPf y4.2.1 a1, ()))
   (dup 1 <|
   some ((⟨y3.1, a0.bits - 1⟩ : Pf), false, ())))
noncomputable def span_Has_1_t (a0 : Pf) (a1 : Ad) : Option (Bool × Unit) :=
 (prefix_Holds_t a0 a1).bind fun y1 =>
 some (y1.1, ())
noncomputable def zq26 (rec : (((Unit) × (Unit) × (Int × Unit) × (Int × Unit) × Unit) × (List Pf × (Ad × Unit) × Unit)) → Option ((((Int × Unit) × Unit) × (List Pf × (Ad × Unit) × Unit)) ⊕ ((Unit) × (List Pf × (Ad × Unit) × Unit)))) (x : (((Unit) × (Unit) × (Int × Unit) × (Int × Unit) × Unit) × (List Pf × (Ad × Unit) × Unit))) : Option ((((Int × Unit) × Unit) × (List Pf × (Ad × Unit) × Unit)) ⊕ ((Unit) × (List Pf × (Ad × Unit) × Unit))) :=
 let v0 := x.1.2.2.1.1
 let v1 := x.1.2.2.2.1.1
 let v2 := x.2.1
 let v3 := x.2.2.1.1
 br (decide (v1 < v0))
  (req (inRange v1 (lenL v2)) <|
  (geti v2 v1).bind fun p1 =>
  (span_Has_1_t p1 v3).bind fun y2 =>
  br y2.1
   (some (Sum.inl (((v1, ()), ()), (v2, (v3, ()), ()))))
   (req (i64ok (v1 + 1)) <|
   rec (((()), (()), (v0, ()), (v1 + 1, ()), ()), (v2, (v3, ()), ()))))
  (some (Sum.inr (((()), (v2, (v3, ()), ())))))
noncomputable def zq24 (rec : (((Unit) × (Unit) × (Int × Unit) × (Int × Unit) × Unit) × (List Pf × (Ad × Unit) × Unit)) → Option ((((Int × Unit) × Unit) × (List Pf × (Ad × Unit) × Unit)) ⊕ ((Unit) × (List Pf × (Ad × Unit) × Unit)))) (x : (((Unit) × (Unit) × (Int × Unit) × (Int × Unit) × Unit) × (List Pf × (Ad × Unit) × Unit))) : Option ((((Int × Unit) × Unit) × (List Pf × (Ad × Unit) × Unit)) ⊕ ((Unit) × (List Pf × (Ad × Unit) × Unit))) :=
 let v0 := x.1.2.2.1.1
 let v1 := x.1.2.2.2.1.1
 let v2 := x.2.1
 let v3 := x.2.2.1.1
 br (decide (v1 < v0))
  (req (inRange v1 (lenL v2)) <|
  (geti v2 v1).bind fun p1 =>
  (span_Has_1_t p1 v3).bind fun y2 =>
  br y2.1
   (some (Sum.inl (((v1, ()), ()), (v2, (v3, ()), ()))))
   (req (i64ok (v1 + 1)) <|
   rec (((()), (()), (v0, ()), (v1 + 1, ()), ()), (v2, (v3, ()), ()))))
  (some (Sum.inr (((()), (v2, (v3, ()), ())))))
noncomputable def span_Has_t (a0 : List Pf) (a1 : Ad) : Option (Bool × Int × Unit) :=
 (span_Right_t a0).bind fun y1 =>
 br (decide (y1.1 = 0))
  ((addr_Check_t a1).bind fun y2 =>
  br (!decide (y2.1 = 0))
   (some (false, y2.1, ()))
   ((loopN zq26 FUEL (((()), (()), (lenL a0, ()), (0, ()), ()), (a0, (a1, ()), ()))).bind fun y3 =>
   sumC y3 (fun y4 =>
    some (decide (y4.1.1.1 ≥ 0), 0, ())) (fun y5 =>
    some (false, 0, ()))))
  (br (!decide (y1.1 = 0))
   (some (false, y1.1, ()))
   ((loopN zq24 FUEL (((()), (()), (lenL a0, ()), (0, ()), ()), (a0, (a1, ()), ()))).bind fun y2 =>
   sumC y2 (fun y3 =>
    some (decide (y3.1.1.1 ≥ 0), 0, ())) (fun y4 =>
    some (false, 0, ()))))
noncomputable def span_rest_step (span_rest_rec_t : Pf → Pf → Option ((List Pf) × Unit)) (a0 : Pf) (a1 : Pf) : Option ((List Pf) × Unit) :=
 (prefix_Over_t a1 a0).bind fun y1 =>
 br y1.1
  (some (([] : List Pf), ()))
  ((prefix_Over_t a0 a1).bind fun y2 =>
  br (!y2.1)
   (some (([a0] : List Pf), ()))
   ((prefix_Split_t a0).bind fun y3 =>
   (span_rest_rec_t y3.1 a1).bind fun y4 =>
   (span_rest_rec_t y3.2.1 a1).bind fun y5 =>
   req (room (lenL y4.1) (lenL y5.1)) <|
   some (y4.1 ++ y5.1, ())))
noncomputable def span_rest_fuel : Nat → Pf → Pf → Option ((List Pf) × Unit)
 | 0 => fun _ _ => none
 | n + 1 => span_rest_step (span_rest_fuel n)
noncomputable def span_rest_t : Pf → Pf → Option ((List Pf) × Unit) := span_rest_fuel RECN
noncomputable def zq0 (rec : (((Unit) × (Unit) × (Int × Unit) × Unit) × (List Pf × List Pf × Unit)) → Option ((((Bool × Unit) × Unit) × (List Pf × List Pf × Unit)) ⊕ ((Unit) × (List Pf × List Pf × Unit)))) (x : (((Unit) × (Unit) × (Int × Unit) × Unit) × (List Pf × List Pf × Unit))) : Option ((((Bool × Unit) × Unit) × (List Pf × List Pf × Unit)) ⊕ ((Unit) × (List Pf × List Pf × Unit))) :=
 let v0 := x.1.2.2.1.1
 let v1 := x.2.1
 let v2 := x.2.2.1
 br (decide (v0 < lenL v1))
  (req (inRange v0 (lenL v1)) <|
  (geti v1 v0).bind fun p1 =>
  req (inRange v0 (lenL v2)) <|
  (geti v2 v0).bind fun p2 =>
  br (!(eqPf p1 p2))
   (some (Sum.inl (((false, ()), ()), (v1, v2, ()))))
   (req (i64ok (v0 + 1)) <|
   rec (((()), (()), (v0 + 1, ()), ()), (v1, v2, ()))))
  (some (Sum.inr (((()), (v1, v2, ())))))
noncomputable def zq1 (a0 : List Pf) (a1 : List Pf) : Option (Bool × Unit) :=
 br (!decide (lenL a0 = lenL a1))
  (some (false, ()))
  ((loopN zq0 FUEL (((()), (()), (0, ()), ()), (a0, a1, ()))).bind fun y1 =>
  sumC y1 (fun y2 =>
   some (y2.1.1.1, ())) (fun y3 =>
   some (true, ())))
noncomputable def prefix_two_L2 (rec : (((Unit) × (Int × Unit) × (Int × Unit) × Unit) × (List Pf × Unit)) → Option ((((Int × Unit) × Unit) × (List Pf × Unit)) ⊕ ((Unit) × (List Pf × Unit)))) (x : (((Unit) × (Int × Unit) × (Int × Unit) × Unit) × (List Pf × Unit))) : Option ((((Int × Unit) × Unit) × (List Pf × Unit)) ⊕ ((Unit) × (List Pf × Unit))) :=
 let v0 := x.1.2.1.1
 let v1 := x.1.2.2.1.1
 let v2 := x.2.1
 br (decide (v1 < v0))
  (req (inRange v1 (lenL v2)) <|
  (geti v2 v1).bind fun p1 =>
  (zq20 p1).bind fun y2 =>
  br (!decide (y2.1 = 0))
   (some (Sum.inl (((y2.1, ()), ()), (v2, ()))))
   (req (i64ok (v1 + 1)) <|
   rec (((()), (v0, ()), (v1 + 1, ()), ()), (v2, ()))))
  (some (Sum.inr (((()), (v2, ())))))
noncomputable def prefix_two_t (a0 : List Pf) : Option (Int × Unit) :=
 (loopN prefix_two_L2 FUEL (((()), (lenL a0, ()), (0, ()), ()), (a0, ()))).bind fun y1 =>
 sumC y1 (fun y2 =>
  some (y2.1.1.1, ())) (fun y3 =>
  some (0, ()))
noncomputable def zq21 (a0 : Pf) (a1 : Pf) : Option (Bool × Int × Unit) :=
 (prefix_two_t ([a0, a1] : List Pf)).bind fun y1 =>
 br (!decide (y1.1 = 0))
  (some (false, y1.1, ()))
  ((prefix_Over_t a0 a1).bind fun y2 =>
  some (y2.1, 0, ()))
noncomputable def prefix_Ends_t (a0 : Pf) : Option (Ad × Ad × Int × Unit) :=
 (zq20 a0).bind fun y1 =>
 br (!decide (y1.1 = 0))
  (some ((⟨false, 0, 0⟩ : Ad), (⟨false, 0, 0⟩ : Ad), y1.1, ()))
  ((prefix_Last_t a0).bind fun y2 =>
  some (a0.ad, y2.1, 0, ()))
noncomputable def prefix_Halves_t (a0 : Pf) : Option (Pf × Pf × Int × Unit) :=
 (zq20 a0).bind fun y1 =>
 (br (decide (y1.1 = 0))
   ((prefix_Wide_t a0.ad).bind fun y2 =>
   some (decide (a0.bits = y2.1)))
   (some false)).bind fun c2 =>
 br c2
  (some ((⟨(⟨false, 0, 0⟩ : Ad), 0⟩ : Pf), (⟨(⟨false, 0, 0⟩ : Ad), 0⟩ : Pf), 5, ()))
  (br (!decide (y1.1 = 0))
   (some ((⟨(⟨false, 0, 0⟩ : Ad), 0⟩ : Pf), (⟨(⟨false, 0, 0⟩ : Ad), 0⟩ : Pf), y1.1, ()))
   ((prefix_Split_t a0).bind fun y3 =>
   some (y3.1, y3.2.1, 0, ())))
noncomputable def zq22 (a0 : Pf) (a1 : Pf) : Option (Pf × Int × Unit) :=
 (prefix_two_t ([a0, a1] : List Pf)).bind fun y1 =>
 br (!decide (y1.1 = 0))
  (some ((⟨(⟨false, 0, 0⟩ : Ad), 0⟩ : Pf), y1.1, ()))
  ((prefix_Joined_t a0 a1).bind fun y2 =>
  br (!y2.2.1)
   (some ((⟨(⟨false, 0, 0⟩ : Ad), 0⟩ : Pf), 4, ()))
   (some (y2.1, 0, ())))
noncomputable def addr_group_t (a0 : Ad) (a1 : Int) : Option (Int × Unit) :=
 br (decide (a1 < 4))
  (req (i64ok (16 * a1)) <|
  req (i64ok (48 - (16 * a1))) <|
  req (decide (0 ≤ 48 - (16 * a1))) <|
  some (aop .and .u64 (aop .shr .u64 a0.hi (48 - (16 * a1))) 65535, ()))
  (req (i64ok (16 * a1)) <|
  req (i64ok (112 - (16 * a1))) <|
  req (decide (0 ≤ 112 - (16 * a1))) <|
  some (aop .and .u64 (aop .shr .u64 a0.lo (112 - (16 * a1))) 65535, ()))
noncomputable def addr_row_L2 (rec : (((Int × Unit) × (Unit) × (Int × Unit) × Unit) × ((Ad × Unit) × Unit)) → Option (((Int × Unit) × Unit) × (Unit))) (x : (((Int × Unit) × (Unit) × (Int × Unit) × Unit) × ((Ad × Unit) × Unit))) : Option (((Int × Unit) × Unit) × (Unit)) :=
 let v0 := x.1.1.1
 let v1 := x.1.2.2.1.1
 let v2 := x.2.1.1
 req (i64ok (v0 + v1)) <|
 (br (decide (v0 + v1 < 8))
   (req (i64ok (v0 + v1)) <|
   (addr_group_t v2 (v0 + v1)).bind fun y1 =>
   some (decide (y1.1 = 0)))
   (some false)).bind fun c1 =>
 br c1
  (req (i64ok (v1 + 1)) <|
  rec (((v0, ()), (()), (v1 + 1, ()), ()), ((v2, ()), ())))
  (some (((v1, ()), ()), (())))
noncomputable def addr_row_t (a0 : Ad) (a1 : Int) : Option (Int × Unit) :=
 (loopN addr_row_L2 FUEL (((a1, ()), (()), (0, ()), ()), ((a0, ()), ()))).bind fun y1 =>
 some (y1.1.1.1, ())
noncomputable def zq4 (rec : (((Unit) × (Int × Unit) × (Int × Unit) × (Int × Unit) × Unit) × ((Ad × Unit) × Unit)) → Option (((Int × Unit) × (Int × Unit) × Unit) × (Unit))) (x : (((Unit) × (Int × Unit) × (Int × Unit) × (Int × Unit) × Unit) × ((Ad × Unit) × Unit))) : Option (((Int × Unit) × (Int × Unit) × Unit) × (Unit)) :=
 let v0 := x.1.2.1.1
 let v1 := x.1.2.2.1.1
 let v2 := x.1.2.2.2.1.1
 let v3 := x.2.1.1
 br (decide (v2 < 8))
  ((addr_row_t v3 v2).bind fun y1 =>
  br (decide (y1.1 > v1))
   (req (i64ok (v2 + 1)) <|
   rec (((()), (v2, ()), (y1.1, ()), (v2 + 1, ()), ()), ((v3, ()), ())))
   (req (i64ok (v2 + 1)) <|
   rec (((()), (v0, ()), (v1, ()), (v2 + 1, ()), ()), ((v3, ()), ()))))
  (some (((v0, ()), (v1, ()), ()), (())))
noncomputable def addr_longest_t (a0 : Ad) : Option (Int × Int × Unit) :=
 (loopN zq4 FUEL (((()), (0, ()), (1, ()), (0, ()), ()), ((a0, ()), ()))).bind fun y1 =>
 br (decide (y1.1.2.1.1 < 2))
  (some (0, 0, ()))
  (some (y1.1.1.1, y1.1.2.1.1, ()))
noncomputable def R_Bits_L3 (rec : (((Unit) × (Unit) × (Int × Unit) × Unit) × ((Ad × Unit) × List Int × Unit)) → Option (((Unit) × (Unit) × Unit) × ((Ad × Unit) × List Int × Unit))) (x : (((Unit) × (Unit) × (Int × Unit) × Unit) × ((Ad × Unit) × List Int × Unit))) : Option (((Unit) × (Unit) × Unit) × ((Ad × Unit) × List Int × Unit)) :=
 let v0 := x.1.2.2.1.1
 let v1 := x.2.1.1
 let v2 := x.2.2.1
 br (decide (v0 ≥ 0))
  (req (decide (0 ≤ v0)) <|
  req (room (lenL v2) (lenL ([convI .u8 (aop .add .u64 48 (aop .rem .u64 (aop .shr .u64 v1.hi v0) 2))] : List Int))) <|
  req (i64ok (v0 - 1)) <|
  rec (((()), (()), (v0 - 1, ()), ()), ((v1, ()), v2 ++ ([convI .u8 (aop .add .u64 48 (aop .rem .u64 (aop .shr .u64 v1.hi v0) 2))] : List Int), ())))
  (some (((()), (()), ()), ((v1, ()), v2, ())))
noncomputable def R_Bits_L7 (rec : (((Unit) × (Unit) × (Int × Unit) × Unit) × ((Ad × Unit) × List Int × Unit)) → Option (((Unit) × (Unit) × Unit) × ((Ad × Unit) × List Int × Unit))) (x : (((Unit) × (Unit) × (Int × Unit) × Unit) × ((Ad × Unit) × List Int × Unit))) : Option (((Unit) × (Unit) × Unit) × ((Ad × Unit) × List Int × Unit)) :=
 let v0 := x.1.2.2.1.1
 let v1 := x.2.1.1
 let v2 := x.2.2.1
 br (decide (v0 ≥ 0))
  (req (decide (0 ≤ v0)) <|
  req (room (lenL v2) (lenL ([convI .u8 (aop .add .u64 48 (aop .rem .u64 (aop .shr .u64 v1.lo v0) 2))] : List Int))) <|
  req (i64ok (v0 - 1)) <|
  rec (((()), (()), (v0 - 1, ()), ()), ((v1, ()), v2 ++ ([convI .u8 (aop .add .u64 48 (aop .rem .u64 (aop .shr .u64 v1.lo v0) 2))] : List Int), ())))
  (some (((()), (()), ()), ((v1, ()), v2, ())))
noncomputable def R_Bits_t (a0 : Ad) : Option (ByteArray × Unit) :=
 (loopN R_Bits_L3 FUEL (((()), (()), (63, ()), ()), ((a0, ()), ([] : List Int), ()))).bind fun y1 =>
 (loopN R_Bits_L7 FUEL (((()), (()), (63, ()), ()), ((y1.2.1.1, ()), y1.2.2.1, ()))).bind fun y2 =>
 br (!y2.2.1.1.v6)
  (req ((decide (96 ≤ lenL y2.2.2.1)) && (decide (lenL y2.2.2.1 ≤ lenL y2.2.2.1))) <|
  some (bytesOf (subL y2.2.2.1 96 (lenL y2.2.2.1)), ()))
  (some (bytesOf y2.2.2.1, ()))
noncomputable def R_HasAddr_t (a0 : Pf) (a1 : Ad) : Option (Bool × Unit) :=
 (br (beqB a0.ad.v6 a1.v6)
   ((R_Bits_t a0.ad).bind fun y1 =>
   req ((decide (0 ≤ a0.bits)) && (decide (a0.bits ≤ lenS y1.1))) <|
   (R_Bits_t a1).bind fun y2 =>
   req ((decide (0 ≤ a0.bits)) && (decide (a0.bits ≤ lenS y2.1))) <|
   some (strcmp .eql (subS y1.1 0 a0.bits) (subS y2.1 0 a0.bits)))
   (some false)).bind fun c1 =>
 some (c1, ())
noncomputable def addr_Less_L2 (rec : (((Unit) × (Unit) × (Unit) × (Int × Unit) × (Int × Unit) × Unit) × ((Ad × Unit) × (Ad × Unit) × List Ad × Unit)) → Option ((((Bool × Unit) × (Int × Unit) × Unit) × (Unit)) ⊕ (((Unit) × (Unit) × Unit) × ((Ad × Unit) × (Ad × Unit) × Unit)))) (x : (((Unit) × (Unit) × (Unit) × (Int × Unit) × (Int × Unit) × Unit) × ((Ad × Unit) × (Ad × Unit) × List Ad × Unit))) : Option ((((Bool × Unit) × (Int × Unit) × Unit) × (Unit)) ⊕ (((Unit) × (Unit) × Unit) × ((Ad × Unit) × (Ad × Unit) × Unit))) :=
 let v0 := x.1.2.2.2.1.1
 let v1 := x.1.2.2.2.2.1.1
 let v2 := x.2.1.1
 let v3 := x.2.2.1.1
 let v4 := x.2.2.2.1
 br (decide (v1 < v0))
  (req (inRange v1 (lenL v4)) <|
  (geti v4 v1).bind fun p1 =>
  (addr_Check_t p1).bind fun y2 =>
  br (!decide (y2.1 = 0))
   (some (Sum.inl (((false, ()), (y2.1, ()), ()), (()))))
   (req (i64ok (v1 + 1)) <|
   rec (((()), (()), (()), (v0, ()), (v1 + 1, ()), ()), ((v2, ()), (v3, ()), v4, ()))))
  (some (Sum.inr ((((()), (()), ()), ((v2, ()), (v3, ()), ())))))
noncomputable def zq2 (a0 : Ad) (a1 : Ad) : Option (Bool × Int × Unit) :=
 (loopN addr_Less_L2 FUEL (((()), (()), (()), (lenL ([a0, a1] : List Ad), ()), (0, ()), ()), ((a0, ()), (a1, ()), ([a0, a1] : List Ad), ()))).bind fun y1 =>
 sumC y1 (fun y2 =>
  some (y2.1.1.1, y2.1.2.1.1, ())) (fun y3 =>
  (addr_Order_t y3.2.1.1 y3.2.2.1.1).bind fun y4 =>
  some (decide (y4.1 < 0), 0, ()))
noncomputable def pick_ready_t (a0 : Pf) (a1 : List Pf) : Option (Int × Unit) :=
 (zq20 a0).bind fun y1 =>
 br (!decide (y1.1 = 0))
  (some (y1.1, ()))
  ((span_Right_t a1).bind fun y2 =>
  some (y2.1, ()))
noncomputable def pick_First_1_t (a0 : Pf) (a1 : Int) : Option (Bool × Unit) :=
 some (decide (a0.bits ≤ a1), ())
noncomputable def addr_Next_t (a0 : Ad) : Option (Ad × Bool × Int × Unit) :=
 (addr_Check_t a0).bind fun y1 =>
 br (!decide (y1.1 = 0))
  (some ((⟨false, 0, 0⟩ : Ad), false, y1.1, ()))
  ((addr_After_t a0).bind fun y2 =>
  br (!y2.2.1)
   (some ((⟨false, 0, 0⟩ : Ad), false, 0, ()))
   (some (y2.1, true, 0, ())))
end Go.Ma
namespace Go.Ma
open Go
theorem addr_Check_eq (a : Ad) : addr_Check_t a = some (chkA a, ()) := by
 unfold addr_Check_t chkA
 cases hv : a.v6 <;> by_cases h1 : a.hi = 0 <;> by_cases h2 : a.lo ≥ 4294967296 <;> simp [br_true, br_false, h1, h2]
theorem wid_le (v : Bool) : wid v ≤ 128 := by cases v <;> decide
theorem prefix_Wide_eq (a : Ad) : prefix_Wide_t a = some (((wid a.v6 : Nat) : Int), ()) := by
 unfold prefix_Wide_t
 cases a.v6 <;> rfl
theorem prefix_mask_eq (a : Ad) (bits : Int) (hb : 0 ≤ bits) (hb' : bits ≤ (wid a.v6 : Nat)) : prefix_mask_t a bits = some (maskA a.v6 bits, ()) := by
 unfold prefix_mask_t
 rw [prefix_Wide_eq, bind_s, maskA_parts]
 have hw := wid_le a.v6
 obtain ⟨r, hr⟩ : ∃ r : Nat, ((wid a.v6 : Nat) : Int) - bits = (r : Int) := ⟨(((wid a.v6 : Nat) : Int) - bits).toNat, by omega⟩
 have hrn : wid a.v6 - bits.toNat = r := by omega
 rw [hrn, hr]
 rw [req_of (i64ok_of (by omega) (by omega))]
 by_cases h1 : r < 64
 ·rw [decide_eq_true (show (r : Int) < 64 by omega), br_true, req_of (by simp), decide_eq_false (show ¬ (r : Int) > 64 by omega), br_false, shl_one h1]
  rw [show r - 64 = 0 by omega, Nat.min_eq_left (by omega)]
  rfl
 ·rw [decide_eq_false (show ¬ (r : Int) < 64 by omega), br_false]
  by_cases h2 : r > 64
  ·rw [decide_eq_true (show (r : Int) > 64 by omega), br_true]
   by_cases h3 : r < 128
   ·rw [decide_eq_true (show (r : Int) < 128 by omega), br_true, req_of (i64ok_of (by omega) (by omega)), req_of (by simp; omega)]
    rw [show (r : Int) - 64 = ((r - 64 : Nat) : Int) by omega, shl_one (by omega), Nat.min_eq_right (by omega)]
    rfl
   ·rw [decide_eq_false (show ¬ (r : Int) < 128 by omega), br_false]
    have : r = 128 := by omega
    subst this
    rfl
  ·have : r = 64 := by omega
   subst this
   rfl
theorem prefix_Cut_eq (a : Ad) (h : a.wf) (bits : Int) (hb : 0 ≤ bits) (hb' : bits ≤ (wid a.v6 : Nat)) : prefix_Cut_t a bits = some (cutA a bits, ()) := by
 unfold prefix_Cut_t
 rw [prefix_mask_eq a bits hb hb', bind_s, maskA_parts, cutA_parts a h]
 obtain ⟨h1, h2, h3, h4⟩ := h
 have hw := wid_le a.v6
 have e1 := andNot_mask a.hi.toNat (wid a.v6 - bits.toNat - 64) (by omega) (by omega)
 have e2 := andNot_mask a.lo.toNat (min (wid a.v6 - bits.toNat) 64) (by omega) (by omega)
 rw [Int.toNat_of_nonneg h1] at e1
 rw [Int.toNat_of_nonneg h3] at e2
 simp only
 rw [e1, e2]
theorem eqAd_eq (a b : Ad) : eqAd a b = decide (a = b) := by
 have e : (a = b) ↔ (a.v6 = b.v6 ∧ a.hi = b.hi ∧ a.lo = b.lo) := by
  cases a; cases b
  simp only [Ad.mk.injEq]
 rw [Bool.eq_iff_iff, decide_eq_true_iff, e]
 unfold eqAd
 simp [beqB, acmp]
theorem eqPf_eq (a b : Pf) : eqPf a b = decide (a = b) := by
 have e : (a = b) ↔ (a.ad.v6 = b.ad.v6 ∧ a.ad.hi = b.ad.hi ∧ a.ad.lo = b.ad.lo ∧ a.bits = b.bits) := by
  cases a with | mk a n => cases b with | mk b k =>
  cases a; cases b
  simp only [Pf.mk.injEq, Ad.mk.injEq, and_assoc]
 rw [Bool.eq_iff_iff, decide_eq_true_iff, e]
 unfold eqPf
 simp [beqB, acmp]
theorem zq18 {p : Pf} (h : p.In) : zq20 p = some (chkP p, ()) := by
 unfold zq20 chkP
 rw [addr_Check_eq, bind_s]
 by_cases h1 : chkA p.ad = 0
 ·simp only [h1, decide_true, Bool.not_true, br_false, ne_eq, not_true, if_false]
  rw [prefix_Wide_eq, bind_s, br_ss, bind_s]
  by_cases h2 : p.bits < 0 ∨ p.bits > wid p.ad.v6
  ·rw [if_pos h2]
   have : (bif decide (p.bits < 0) then true else decide (p.bits > ((wid p.ad.v6 : Nat) : Int))) = true := by
    rcases h2 with h2 | h2 <;> simp [h2]
   rw [this, br_true]
  ·rw [if_neg h2]
   have : (bif decide (p.bits < 0) then true else decide (p.bits > ((wid p.ad.v6 : Nat) : Int))) = false := by
    simp only [not_or] at h2
    simp [h2.1]; omega
   rw [this, br_false, prefix_Cut_eq p.ad h.1.wf p.bits (by omega) (by omega), bind_s, eqAd_eq]
   by_cases h3 : cutA p.ad p.bits = p.ad <;> simp [h3, br_true, br_false]
 ·simp [h1, br_true]
end Go.Ma
namespace Go.Ma
open Go
theorem bitsTo_get (n t c i : Nat) : (bitsTo n t c)[i]? = if i < c then some (bitV n (t - i)) else none := by
 unfold bitsTo
 rw [List.getElem?_map]
 by_cases h : i < c
 ·rw [List.getElem?_range h, if_pos h]; rfl
 ·rw [if_neg h, List.getElem?_eq_none (by simpa using h)]; rfl
theorem num_testBit (hi lo i : Nat) (hlo : lo < 18446744073709551616) : (hi * 18446744073709551616 + lo).testBit i = if i < 64 then lo.testBit i else hi.testBit (i - 64) := by
 have := Nat.testBit_two_pow_mul_add (i := 64) hi (b := lo) (by simpa using hlo) i
 rw [Nat.mul_comm, show (18446744073709551616 : Nat) = 2 ^ 64 by decide]
 exact this
theorem bitV_congr {n i m j : Nat} (h : n.testBit i = m.testBit j) : bitV n i = bitV m j := by unfold bitV; rw [h]
theorem bitsA_eq {a : Ad} (h : a.wf) (hc : chkA a = 0) : bitsA a = bitsTo a.num (wid a.v6 - 1) (wid a.v6) := by
 obtain ⟨h1, h2, h3, h4⟩ := h
 have hlo : a.lo.toNat < 18446744073709551616 := by omega
 unfold bitsA Ad.num
 apply List.ext_getElem?
 intro i
 cases hv : a.v6
 ·unfold chkA at hc
  rw [hv] at hc
  have hz : a.hi = 0 ∧ ¬ (4294967296 : Int) ≤ a.lo := by
   split at hc
   ·cases hc
   ·rename_i hn
    simp only [true_and, not_or, Decidable.not_not] at hn
    exact hn
  simp only [Bool.false_eq_true, if_false, wid]
  rw [List.getElem?_drop, List.getElem?_append_right (by rw [bitsTo_length]; omega), bitsTo_length, bitsTo_get, bitsTo_get, hz.1]
  by_cases hi : i < 32
  ·rw [if_pos (by omega), if_pos hi]
   have e : 63 - (96 + i - 64) = 32 - 1 - i := by omega
   rw [e]
   simp
  ·rw [if_neg (by omega), if_neg hi]
 ·simp only [if_true, wid]
  rw [bitsTo_get]
  by_cases hi : i < 64
  ·rw [List.getElem?_append_left (by rw [bitsTo_length]; exact hi), bitsTo_get, if_pos hi, if_pos (by omega)]
   refine congrArg some (bitV_congr ?_)
   rw [num_testBit _ _ _ hlo, if_neg (by omega), show 128 - 1 - i - 64 = 63 - i by omega]
  ·rw [List.getElem?_append_right (by rw [bitsTo_length]; omega), bitsTo_length, bitsTo_get]
   by_cases hi2 : i < 128
   ·rw [if_pos (by omega), if_pos hi2]
    refine congrArg some (bitV_congr ?_)
    rw [num_testBit _ _ _ hlo, if_pos (by omega), show 63 - (i - 64) = 128 - 1 - i by omega]
   ·rw [if_neg (by omega), if_neg hi2]
theorem cutN_iff (n k : Nat) : cutN n k = n ↔ n % 2 ^ k = 0 := by
 unfold cutN
 have := Nat.div_add_mod n (2 ^ k)
 rw [Nat.mul_comm] at this
 omega
theorem cutA_iff {a : Ad} (h : a.wf) (bits : Int) : cutA a bits = a ↔ cutN a.num (wid a.v6 - bits.toNat) = a.num := by
 unfold cutA
 constructor
 ·intro he
  have := congrArg Ad.num he
  rwa [num_ofNum] at this
 ·intro he
  rw [he, ofNum_num a h]
def toI (l : List UInt8) : List Int := l.map fun b => (b.toNat : Int)
theorem toI_len (l : List UInt8) : (toI l).length = l.length := by simp [toI]
theorem bytesOf_toI (l : List UInt8) : bytesOf (toI l) = ofBytes l := by
 unfold bytesOf toI ofBytes
 congr 1
 rw [List.map_map]
 congr 1
 conv => rhs; rw [← List.map_id l]
 apply List.map_congr_left
 intro b _
 simp
theorem bit_conv (x i : Int) (hx : 0 ≤ x) (hx' : x < 18446744073709551616) (hi : 0 ≤ i) (hi' : i ≤ 63) :
  convI .u8 (aop .add .u64 48 (aop .rem .u64 (aop .shr .u64 x i) 2)) = ((bitV x.toNat i.toNat).toNat : Int) := bit_step x i hx hx' hi hi'
theorem bits_loop3 {a : Ad} (h : a.In) : loopN R_Bits_L3 FUEL (((), (), (63, ()), ()), ((a, ()), ([] : List Int), ())) = some (((), (), ()), ((a, ()), toI (bitsTo a.hi.toNat 63 64), ())) := by
 have := loop_up (step := R_Bits_L3) (fun j => (((), (), (63 - (j : Int), ()), ()), ((a, ()), toI (bitsTo a.hi.toNat 63 j), ()))) 64 (fun _ => some (((), (), ()), ((a, ()), toI (bitsTo a.hi.toNat 63 64), ()))) (fun rec j hj hr => ?_) (fun rec => ?_) FUEL 0 (by omega) (fuel_gt (by omega))
 ·exact this
 ·simp only [R_Bits_L3]
  rw [decide_eq_true (by omega), br_true, req_true, bit_conv _ _ h.1.1 h.1.2 (by omega) (by omega)]
  rw [req_of (room_of (zq11 _) (zq11 _) (by simp only [lenL, toI_len, bitsTo_length, List.length_cons, List.length_nil]; omega)), req_of (i64ok_of (by omega) (by omega))]
  rw [← hr]
  have e1 : (63 - (j : Int)).toNat = 63 - j := by omega
  have e2 : 63 - (j : Int) - 1 = 63 - ((j + 1 : Nat) : Int) := by omega
  rw [e1, e2, bitsTo_succ]
  simp [toI]
 ·simp only [R_Bits_L3]
  rw [decide_eq_false (by omega), br_false]
theorem bits_loop7 {a : Ad} (h : a.In) : loopN R_Bits_L7 FUEL (((), (), (63, ()), ()), ((a, ()), toI (bitsTo a.hi.toNat 63 64), ())) = some (((), (), ()), ((a, ()), toI (bitsTo a.hi.toNat 63 64) ++ toI (bitsTo a.lo.toNat 63 64), ())) := by
 have := loop_up (step := R_Bits_L7) (fun j => (((), (), (63 - (j : Int), ()), ()), ((a, ()), toI (bitsTo a.hi.toNat 63 64) ++ toI (bitsTo a.lo.toNat 63 j), ()))) 64 (fun _ => some (((), (), ()), ((a, ()), toI (bitsTo a.hi.toNat 63 64) ++ toI (bitsTo a.lo.toNat 63 64), ()))) (fun rec j hj hr => ?_) (fun rec => ?_) FUEL 0 (by omega) (fuel_gt (by omega))
 ·rw [← this]
  simp [toI, bitsTo]
 ·simp only [R_Bits_L7]
  rw [decide_eq_true (by omega), br_true, req_true, bit_conv _ _ h.2.1 h.2.2 (by omega) (by omega)]
  rw [req_of (room_of (zq11 _) (zq11 _) (by simp only [lenL, List.length_append, toI_len, bitsTo_length, List.length_cons, List.length_nil]; omega)), req_of (i64ok_of (by omega) (by omega))]
  rw [← hr]
  have e1 : (63 - (j : Int)).toNat = 63 - j := by omega
  have e2 : 63 - (j : Int) - 1 = 63 - ((j + 1 : Nat) : Int) := by omega
  rw [e1, e2, bitsTo_succ a.lo.toNat 63 j]
  simp [toI]
 ·simp only [R_Bits_L7]
  rw [decide_eq_false (by omega), br_false]
theorem R_Bits_eq {a : Ad} (h : a.In) : R_Bits_t a = some (ofBytes (bitsA a), ()) := by
 unfold R_Bits_t bitsA
 rw [bits_loop3 h, bind_s, bits_loop7 h, bind_s]
 have e : toI (bitsTo a.hi.toNat 63 64) ++ toI (bitsTo a.lo.toNat 63 64) = toI (bitsTo a.hi.toNat 63 64 ++ bitsTo a.lo.toNat 63 64) := by simp [toI]
 simp only [e]
 cases a.v6
 ·have hl : lenL (toI (bitsTo a.hi.toNat 63 64 ++ bitsTo a.lo.toNat 63 64)) = 128 := by simp only [lenL, toI_len, List.length_append, bitsTo_length]; rfl
  rw [hl, Bool.not_false, br_true, req_of (by decide)]
  have : subL (toI (bitsTo a.hi.toNat 63 64 ++ bitsTo a.lo.toNat 63 64)) 96 128 = toI ((bitsTo a.hi.toNat 63 64 ++ bitsTo a.lo.toNat 63 64).drop 96) := by
   unfold subL
   rw [show (128 : Int).toNat = 128 from rfl, show (96 : Int).toNat = 96 from rfl, List.take_of_length_le (by rw [toI_len]; simp [bitsTo_length])]
   simp [toI, List.map_drop]
  rw [this, bytesOf_toI]
  rfl
 ·rw [Bool.not_true, br_false, bytesOf_toI]
  rfl
theorem bitsA_len (a : Ad) : (bitsA a).length = wid a.v6 := by
 unfold bitsA wid
 cases a.v6 <;> simp [bitsTo_length]
theorem ofBytes_size (l : List UInt8) : (ofBytes l).size = l.length := by simp [ofBytes, ByteArray.size]
end Go.Ma
namespace Go.Ma
open Go
def aheadA (a b : Ad) : Bool := if a.v6 ≠ b.v6 then b.v6 else decide (a.num < b.num)
theorem addr_Order_eq (a b : Ad) : addr_Order_t a b = some (ordA a b, ()) := by
 unfold addr_Order_t addr_Order_1_t ordA ordI
 by_cases hv : a.v6 = b.v6
 ·have : beqB a.v6 b.v6 = true := by simp [beqB, hv]
  rw [this]
  simp only [Bool.not_true, br_false, bind_s, hv, ne_eq, not_true, false_and, if_false]
  by_cases h1 : a.hi = b.hi
  ·simp only [h1, decide_true, Bool.not_true, br_false, not_true, if_false]
   by_cases h2 : a.lo < b.lo
   ·simp only [h2, decide_true, br_true, bind_s, if_true]
   ·by_cases h3 : a.lo > b.lo
    ·simp only [h2, h3, decide_true, decide_false, br_true, br_false, bind_s, if_true, if_false]
    ·simp only [h2, h3, decide_false, br_false, bind_s, if_false]
  ·simp only [h1, decide_false, Bool.not_false, br_true, not_false_eq_true, if_true]
   by_cases h2 : a.hi < b.hi
   ·simp only [h2, decide_true, br_true, bind_s, if_true]
   ·by_cases h3 : a.hi > b.hi
    ·simp only [h2, h3, decide_true, decide_false, br_true, br_false, bind_s, if_true, if_false]
    ·simp only [h2, h3, decide_false, br_false, bind_s, if_false]
 ·have : beqB a.v6 b.v6 = false := by simp [beqB, hv]
  rw [this]
  cases hb : b.v6 <;> simp_all [br_true, br_false]
theorem chkP_ad {p : Pf} (h : chkP p = 0) : chkA p.ad = 0 := by
 unfold chkP at h
 split at h
 ·rename_i h1; exact absurd h h1
 ·rename_i h1; exact Decidable.not_not.1 h1
theorem chkP_cut {p : Pf} (h : chkP p = 0) : cutA p.ad p.bits = p.ad := by
 unfold chkP at h
 split at h
 ·rename_i h1; exact absurd h h1
 split at h
 ·cases h
 split at h
 ·cases h
 ·rename_i h1; exact Decidable.not_not.1 h1
theorem take_bits (n m w b : Nat) (hb : b ≤ w) : (bitsTo n (w - 1) w).take b = (bitsTo m (w - 1) w).take b ↔ ∀ i, w - b ≤ i → i < w → n.testBit i = m.testBit i := by
 constructor
 ·intro h i h1 h2
  have := congrArg (fun l : List UInt8 => l[w - 1 - i]?) h
  have h3 : w - 1 - i < b := by omega
  have h4 : w - 1 - i < w := by omega
  simp only [List.getElem?_take, bitsTo_get, h3, h4, if_true, show w - 1 - (w - 1 - i) = i by omega] at this
  injection this with this
  unfold bitV at this
  cases hn : n.testBit i <;> cases hm : m.testBit i <;> rw [hn, hm] at this <;> first | rfl | (exfalso; revert this; decide)
 ·intro h
  apply List.ext_getElem?
  intro j
  simp only [List.getElem?_take, bitsTo_get]
  by_cases hj : j < b
  ·rw [if_pos hj, if_pos (by omega), if_pos hj, if_pos (by omega), bitV_congr (h (w - 1 - j) (by omega) (by omega))]
  ·rw [if_neg hj, if_neg hj]
theorem cutN_bits (n m w b : Nat) (hb : b ≤ w) (hn : n < 2 ^ w) (hm : m < 2 ^ w) : cutN n (w - b) = cutN m (w - b) ↔ ∀ i, w - b ≤ i → i < w → n.testBit i = m.testBit i := by
 unfold cutN
 have hp := Nat.two_pow_pos (w - b)
 constructor
 ·intro h i h1 h2
  have := congrArg (fun x => x.testBit i) h
  simp only [Nat.testBit_mul_two_pow, Nat.testBit_div_two_pow] at this
  simpa [h1, Nat.sub_add_cancel h1] using this
 ·intro h
  congr 1
  apply Nat.eq_of_testBit_eq
  intro i
  rw [Nat.testBit_div_two_pow, Nat.testBit_div_two_pow]
  by_cases hi : i + (w - b) < w
  ·exact h _ (by omega) hi
  ·have a1 : n.testBit (i + (w - b)) = false := Nat.testBit_lt_two_pow (Nat.lt_of_lt_of_le hn (Nat.pow_le_pow_right (by omega) (by omega)))
   have a2 : m.testBit (i + (w - b)) = false := Nat.testBit_lt_two_pow (Nat.lt_of_lt_of_le hm (Nat.pow_le_pow_right (by omega) (by omega)))
   rw [a1, a2]
theorem prefix_Holds_eq {p : Pf} {a : Ad} (h1 : 0 ≤ p.bits) (h2 : p.bits ≤ (wid p.ad.v6 : Nat)) (ha : a.In) : prefix_Holds_t p a = some (holds p a, ()) := by
 unfold prefix_Holds_t holds
 by_cases hv : p.ad.v6 = a.v6
 ·rw [show beqB p.ad.v6 a.v6 = true by simp [beqB, hv], br_true, prefix_Cut_eq a ha.wf p.bits h1 (by rw [← hv]; exact h2), bind_s, bind_s, eqAd_eq]
  simp [hv]
 ·rw [show beqB p.ad.v6 a.v6 = false by simp [beqB, hv], br_false, bind_s]
  simp [hv]
theorem R_HasAddr_eq {p : Pf} {a : Ad} (hp : p.In) (cp : chkP p = 0) (ha : a.In) (ca : chkA a = 0) : R_HasAddr_t p a = some (holds p a, ()) := by
 obtain ⟨h1, h2⟩ := chkP_bits cp
 unfold R_HasAddr_t holds
 by_cases hv : p.ad.v6 = a.v6
 rotate_left
 ·rw [show beqB p.ad.v6 a.v6 = false by simp [beqB, hv], br_false, bind_s]
  simp [hv]
 have l1 : lenS (ofBytes (bitsA p.ad)) = (wid p.ad.v6 : Nat) := by unfold lenS; rw [ofBytes_size, bitsA_len]
 have l2 : lenS (ofBytes (bitsA a)) = (wid p.ad.v6 : Nat) := by unfold lenS; rw [ofBytes_size, bitsA_len, hv]
 rw [show beqB p.ad.v6 a.v6 = true by simp [beqB, hv], br_true, R_Bits_eq hp.1, bind_s, R_Bits_eq ha, bind_s]
 simp only [l1, l2, h1, h2, decide_true, Bool.and_self, req_true, bind_s, strcmp_eql]
 have hs : ∀ l : List UInt8, subS (ofBytes l) 0 p.bits = ofBytes (l.take p.bits.toNat) := fun l => by
  apply ByteArray.ext
  simp [subS, ofBytes, ByteArray.data_extract]
 have hi : ∀ l r : List UInt8, ofBytes l = ofBytes r ↔ l = r := fun l r => by simp [ofBytes]
 have n1 := right_num p.ad ⟨hp.1.wf, chkP_ad cp⟩
 have n2 := right_num a ⟨ha.wf, ca⟩
 rw [← hv] at n2
 have hb : p.bits.toNat ≤ wid p.ad.v6 := by omega
 have key : (subS (ofBytes (bitsA p.ad)) 0 p.bits = subS (ofBytes (bitsA a)) 0 p.bits) ↔ cutA a p.bits = p.ad := by
  rw [hs, hs, hi, bitsA_eq hp.1.wf (chkP_ad cp), bitsA_eq ha.wf ca, ← hv, take_bits _ _ _ _ hb, ← cutN_bits _ _ _ _ hb n1 n2]
  have hc := (cutA_iff hp.1.wf p.bits).1 (chkP_cut cp)
  rw [hc]
  unfold cutA
  rw [← hv]
  constructor
  ·intro h
   rw [← h, ofNum_num _ hp.1.wf]
  ·intro h
   have := congrArg Ad.num h
   rw [num_ofNum] at this
   exact this.symm
 simp only [hv, beq_self_eq_true, Bool.true_and]
 congr 2
 exact decide_eq_decide.2 key
end Go.Ma
namespace Go.Ma
open Go
def zq6 (s sep : ByteArray) : Option (Int × Unit) := match sep.data.toList with | [c] => some (Lib.indexByte s.data.toList c, ()) | _ => none
def plainB (b : UInt8) : Bool := !(b == 43) && !(b == 45) && !(b == 95)
def strconv_Itoa_t (n : Int) : Option (ByteArray × Unit) := req (decide (0 ≤ n) && decide (n < 1000)) (some (⟨(Lib.decDigits n.toNat).toArray⟩, ()))
def strings_Join_t (l : List ByteArray) (sep : ByteArray) : Option (ByteArray × Unit) :=
 req (Nat.ble l.length 1024 && Nat.ble (Lib.join (l.map (·.data.toList)) sep.data.toList).length 1099511627776) (some (⟨(Lib.join (l.map (·.data.toList)) sep.data.toList).toArray⟩, ()))
def prefix_Digits_t (s : ByteArray) : Option (Int × Bool × Unit) :=
 req (Nat.ble s.size 18) <|
 match Lib.atoi s.data.toList with
 | some n => req (decide (0 ≤ n) && decide (n < 1000)) (some (n, decide (s.size ≤ 4) && ((⟨(Lib.decDigits n.toNat).toArray⟩ : ByteArray) == s), ()))
 | none => none
end Go.Ma
namespace Go.Ma
open Go
def lowQ (c : UInt8) : Int := bits .or .u8 (c.toNat : Int) 32
def hexv (c : UInt8) : Option Nat :=
 if 48 ≤ c.toNat ∧ c.toNat ≤ 57 then some (c.toNat - 48) else if 97 ≤ lowQ c ∧ lowQ c ≤ 102 then some ((lowQ c).toNat - 87) else none
def hexF : List UInt8 → Nat → Option Nat
 | [], a => some a
 | c :: r, a => match hexv c with
  | none => none
  | some d => if 4294967295 < a * 16 + d then none else hexF r (a * 16 + d)
inductive HexEnd (et : TypeId) (l : List UInt8) (a : Nat) (u : Int) (ev : Value) : Prop
 | ok {n : Nat} (h : hexF l a = some n) (hu : u = n := by rfl) (he : ev = .nilIface := by rfl) : HexEnd et l a u ev
 | bad (h : hexF l a = none) (he : ev = .iface et (.int .i64 2) ∨ ev = .iface et (.int .i64 1)) : HexEnd et l a u ev
def hexU (s : ByteArray) : Option Nat := if s.size = 0 then none else hexF s.data.toList 0
def decU (s : ByteArray) : Option Nat := match Lib.parseUintB 32 s.data.toList with
 | .ok u => some u
 | _ => none
def numU (base : Int) (s : ByteArray) : Option Nat := if base = 10 then decU s else hexU s
def partF (s : ByteArray) (base digits most : Int) : Option Int :=
 if s.data.toList.all plainB = true then
  match numU base s with
  | none => none
  | some u => if digits < s.size ∨ most < u ∨ (base = 10 ∧ 1 < s.size ∧ s.data.toList.head? = some 48) then none else some (u : Int)
 else none
end Go.Ma
namespace Go.Ma
open Go
def splitOn (s : ByteArray) (c : UInt8) : List ByteArray := Lib.splitB ⟨#[c]⟩ 0 (Lib.countB s ⟨#[c]⟩) s
def fourL : List ByteArray → Int → Option Int
 | [], n => some n
 | x :: r, n => match partF x 10 3 255 with
  | none => none
  | some u => fourL r (aop .or .u64 (aop .shl .u64 n 8) u)
def fourF (s : ByteArray) : Option Int := if (splitOn s 46).length = 4 then fourL (splitOn s 46) 0 else none
def dotIn (x : ByteArray) : Bool := decide (0 ≤ Lib.indexByte x.data.toList 46)
def someL (last : Bool) (len : Nat) : List ByteArray → Nat → List Int → Option (List Int)
 | [], _, out => some out
 | x :: r, i, out => if last = true ∧ i + 1 = len ∧ dotIn x = true then
   match fourF x with
   | none => none
   | some n => someL last len r (i + 1) (out ++ [n / 65536, aop .and .u64 n 65535])
  else
   match partF x 16 4 65535 with
   | none => none
   | some u => someL last len r (i + 1) (out ++ [u])
def someF (s : ByteArray) (last : Bool) : Option (List Int) := if s.size = 0 then some [] else someL last (splitOn s 58).length (splitOn s 58) 0 []
def packI : List Int → Int → Int
 | [], h => h
 | x :: r, h => packI r (aop .or .u64 (aop .shl .u64 h 16) x)
def packA (l : List Int) : Ad := ⟨true, packI (l.take 4) 0, packI ((l.drop 4).take 4) 0⟩
def cut1 (s : ByteArray) : ByteArray := ⟨(Lib.cut s.data.toList [58, 58]).1.toArray⟩
def cut2 (s : ByteArray) : ByteArray := ⟨(Lib.cut s.data.toList [58, 58]).2.1.toArray⟩
def cut3 (s : ByteArray) : Bool := (Lib.cut s.data.toList [58, 58]).2.2
def sixteenF (s : ByteArray) : Option Ad :=
 if cut3 s = true then
  match someF (cut1 s) false with
  | none => none
  | some l => match someF (cut2 s) true with
   | none => none
   | some m => if 7 < l.length + m.length then none else some (packA (l ++ List.replicate (8 - l.length - m.length) 0 ++ m))
 else match someF s true with
  | none => none
  | some l => if l.length = 8 then some (packA l) else none
end Go.Ma
namespace Go.Ma
open Go
def hexD (d : Nat) : UInt8 := if d < 10 then UInt8.ofNat (48 + d) else UInt8.ofNat (87 + d)
def hex4 (n : Nat) : List UInt8 :=
 if n < 16 then [hexD n] else if n < 256 then [hexD (n / 16), hexD (n % 16)] else if n < 4096 then [hexD (n / 256), hexD (n / 16 % 16), hexD (n % 16)] else [hexD (n / 4096), hexD (n / 256 % 16), hexD (n / 16 % 16), hexD (n % 16)]
def dec3 (n : Nat) : List UInt8 :=
 if n < 10 then [UInt8.ofNat (48 + n)] else if n < 100 then [UInt8.ofNat (48 + n / 10), UInt8.ofNat (48 + n % 10)] else [UInt8.ofNat (48 + n / 100), UInt8.ofNat (48 + n / 10 % 10), UInt8.ofNat (48 + n % 10)]
theorem hex4_step (u : Nat) (h : 16 ≤ u) (h2 : u < 65536) : hex4 u = hex4 (u / 16) ++ [hexD (u % 16)] := by
 unfold hex4
 rw [if_neg (by omega : ¬ u < 16)]
 by_cases h3 : u < 256
 ·rw [if_pos h3, if_pos (by omega)]; rfl
 ·rw [if_neg h3, if_neg (by omega : ¬ u / 16 < 16)]
  by_cases h4 : u < 4096
  ·rw [if_pos h4, if_pos (by omega), show u / 16 / 16 = u / 256 by omega]; rfl
  ·rw [if_neg h4, if_neg (by omega), if_pos (by omega), show u / 16 / 256 = u / 4096 by omega, show u / 16 / 16 % 16 = u / 256 % 16 by omega]; rfl
theorem dec3_eq (n : Nat) (h : n < 1000) : Lib.decDigits n = dec3 n := by
 unfold dec3
 by_cases h1 : n < 10
 ·rw [if_pos h1, Lib.decDigits, dif_pos h1]
 ·rw [if_neg h1, Lib.decDigits, dif_neg h1]
  by_cases h2 : n < 100
  ·rw [if_pos h2, Lib.decDigits, dif_pos (by omega)]; rfl
  ·rw [if_neg h2, Lib.decDigits, dif_neg (by omega), Lib.decDigits, dif_pos (by omega), show n / 10 / 10 = n / 100 by omega]; rfl
def zq34 (n b : Int) : Option (ByteArray × Unit) :=
 if b = 16 then req (decide (0 ≤ n) && decide (n < 65536)) (some (⟨(hex4 n.toNat).toArray⟩, ()))
 else req (decide (b = 10) && (decide (0 ≤ n) && decide (n < 256))) (some (⟨(dec3 n.toNat).toArray⟩, ()))
end Go.Ma
namespace Go.Ma
open Go
def colonIn (s : ByteArray) : Bool := decide (0 ≤ Lib.indexByte s.data.toList 58)
def toldF (s : ByteArray) : Option Ad := if colonIn s = true then sixteenF s else (fourF s).map fun u => ⟨false, 0, u⟩
def toldA (s : ByteArray) : Ad := match toldF s with | some a => a | none => ⟨false, 0, 0⟩
def addr_told_t (s : ByteArray) : Option (Ad × Bool × Unit) := req (Nat.ble s.size 4294967200) (some (toldA s, (toldF s).isSome, ()))
end Go.Ma
namespace Go.Ma
open Go
noncomputable def zq32 (rec : (((Unit) × (Unit) × (Int × Unit) × Unit) × (List Pf × (Unit) × List Pf × List Pf × (Pf × Unit) × (Pf × Unit) × Unit)) → Option (((Unit) × (Unit) × (Int × Unit) × Unit) × (List Pf × (Unit) × List Pf × List Pf × (Pf × Unit) × (Pf × Unit) × Unit))) (x : (((Unit) × (Unit) × (Int × Unit) × Unit) × (List Pf × (Unit) × List Pf × List Pf × (Pf × Unit) × (Pf × Unit) × Unit))) : Option (((Unit) × (Unit) × (Int × Unit) × Unit) × (List Pf × (Unit) × List Pf × List Pf × (Pf × Unit) × (Pf × Unit) × Unit)) :=
 let v0 := x.1.2.2.1.1
 let v1 := x.2.1
 let v2 := x.2.2.2.1
 let v3 := x.2.2.2.2.1
 let v4 := x.2.2.2.2.2.1.1
 let v5 := x.2.2.2.2.2.2.1.1
 br (decide (v0 > 0))
  (req (i64ok (v0 - 1)) <|
  req (inRange (v0 - 1) (lenL v3)) <|
  (geti v3 (v0 - 1)).bind fun p1 =>
  dup 1 <|
  (prefix_Joined_t p1 v5).bind fun y2 =>
  br (!y2.2.1)
   (some (((()), (()), (v0, ()), ()), (v1, (()), v2, v3, (v4, ()), (v5, ()), ())))
   (req (i64ok (v0 - 1)) <|
   rec (((()), (()), (v0 - 1, ()), ()), (v1, (()), v2, v3, (v4, ()), (y2.1, ()), ()))))
  (some (((()), (()), (v0, ()), ()), (v1, (()), v2, v3, (v4, ()), (v5, ()), ())))
noncomputable def span_Short_L5 (rec : (((Unit) × (Unit) × (Int × Unit) × (Int × Unit) × Unit) × (List Pf × (Unit) × List Pf × List Pf × Unit)) → Option (((Unit) × Unit) × (List Pf × (Unit) × List Pf × Unit))) (x : (((Unit) × (Unit) × (Int × Unit) × (Int × Unit) × Unit) × (List Pf × (Unit) × List Pf × List Pf × Unit))) : Option (((Unit) × Unit) × (List Pf × (Unit) × List Pf × Unit)) :=
 let v0 := x.1.2.2.1.1
 let v1 := x.1.2.2.2.1.1
 let v2 := x.2.1
 let v3 := x.2.2.2.1
 let v4 := x.2.2.2.2.1
 br (decide (v1 < v0))
  (req (inRange v1 (lenL v3)) <|
  (geti v3 v1).bind fun p1 =>
  (br (decide (lenL v4 > 0))
    (req (i64ok ((lenL v4) - 1)) <|
    req (inRange ((lenL v4) - 1) (lenL v4)) <|
    (geti v4 ((lenL v4) - 1)).bind fun p2 =>
    (prefix_Over_t p2 p1).bind fun y3 =>
    some y3.1)
    (some false)).bind fun c2 =>
  br c2
   (req (i64ok (v1 + 1)) <|
   rec (((()), (()), (v0, ()), (v1 + 1, ()), ()), (v2, (()), v3, v4, ())))
   ((loopN zq32 FUEL (((()), (()), (lenL v4, ()), ()), (v2, (()), v3, v4, (p1, ()), (p1, ()), ()))).bind fun y3 =>
   dup 1 <|
   req ((decide (0 ≤ y3.1.2.2.1.1)) && (decide (y3.1.2.2.1.1 ≤ lenL y3.2.2.2.2.1))) <|
   req (room (lenL (subL y3.2.2.2.2.1 0 y3.1.2.2.1.1)) (lenL ([y3.2.2.2.2.2.2.1.1] : List Pf))) <|
   req (i64ok (v1 + 1)) <|
   rec (((()), (()), (v0, ()), (v1 + 1, ()), ()), (y3.2.1, (()), y3.2.2.2.1, (subL y3.2.2.2.2.1 0 y3.1.2.2.1.1) ++ ([y3.2.2.2.2.2.2.1.1] : List Pf), ()))))
  (some (((()), ()), (v2, (()), v4, ())))
noncomputable def span_Short_t (a0 : List Pf) : Option ((List Pf) × Unit) :=
 (zq23 a0).bind fun y1 =>
 req (sortOkP y1.1) <|
 (loopN span_Short_L5 FUEL (((()), (()), (lenL (sortP y1.1), ()), (0, ()), ()), (a0, (()), sortP y1.1, ([] : List Pf), ()))).bind fun y2 =>
 some (y2.2.2.2.1, ())
noncomputable def span_Norm_t (a0 : List Pf) : Option ((List Pf) × Int × Unit) :=
 (span_Right_t a0).bind fun y1 =>
 br (!decide (y1.1 = 0))
  (some (([] : List Pf), y1.1, ()))
  ((span_Short_t a0).bind fun y2 =>
  some (y2.1, 0, ()))
noncomputable def span_Less_L3 (rec : (((Unit) × (Unit) × (Unit) × (Int × Unit) × (Int × Unit) × Unit) × (List Pf × (Pf × Unit) × List Pf × Unit)) → Option (((Unit) × Unit) × (List Pf × List Pf × Unit))) (x : (((Unit) × (Unit) × (Unit) × (Int × Unit) × (Int × Unit) × Unit) × (List Pf × (Pf × Unit) × List Pf × Unit))) : Option (((Unit) × Unit) × (List Pf × List Pf × Unit)) :=
 let v0 := x.1.2.2.2.1.1
 let v1 := x.1.2.2.2.2.1.1
 let v2 := x.2.1
 let v3 := x.2.2.1.1
 let v4 := x.2.2.2.1
 br (decide (v1 < v0))
  (req (inRange v1 (lenL v2)) <|
  (geti v2 v1).bind fun p1 =>
  (span_rest_t p1 v3).bind fun y2 =>
  req (room (lenL v4) (lenL y2.1)) <|
  req (i64ok (v1 + 1)) <|
  rec (((()), (()), (()), (v0, ()), (v1 + 1, ()), ()), (v2, (v3, ()), v4 ++ y2.1, ())))
  (some (((()), ()), (v2, v4, ())))
noncomputable def span_Less_t (a0 : List Pf) (a1 : Pf) : Option ((List Pf) × Unit) :=
 (loopN span_Less_L3 FUEL (((()), (()), (()), (lenL a0, ()), (0, ()), ()), (a0, (a1, ()), ([] : List Pf), ()))).bind fun y1 =>
 (span_Short_t y1.2.2.1).bind fun y2 =>
 some (y2.1, ())
noncomputable def span_Minus_t (a0 : List Pf) (a1 : Pf) : Option ((List Pf) × Int × Unit) :=
 (span_Right_t a0).bind fun y1 =>
 br (decide (y1.1 = 0))
  ((zq20 a1).bind fun y2 =>
  br (!decide (y2.1 = 0))
   (some (([] : List Pf), y2.1, ()))
   ((span_Less_t a0 a1).bind fun y3 =>
   some (y3.1, 0, ())))
  (br (!decide (y1.1 = 0))
   (some (([] : List Pf), y1.1, ()))
   ((span_Less_t a0 a1).bind fun y2 =>
   some (y2.1, 0, ())))
noncomputable def law_spanBegun_t : Option (Bool × Unit) :=
 (law_net_t 3 32).bind fun y1 =>
 (law_net_t 0 31).bind fun y2 =>
 (law_net_t 2 32).bind fun y3 =>
 (law_net_t 1 32).bind fun y4 =>
 (span_Norm_t ([y1.1, y2.1, y3.1, y4.1] : List Pf)).bind fun y5 =>
 (law_v4_t 3).bind fun y6 =>
 (span_Has_t y5.1 y6.1).bind fun y7 =>
 (law_net_t 1 32).bind fun y8 =>
 (span_Minus_t y5.1 y8.1).bind fun y9 =>
 (br (decide (y5.2.1 = 0))
   (some (decide (y7.2.1 = 0)))
   (some false)).bind fun c10 =>
 (br c10
   (some (decide (y9.2.1 = 0)))
   (some false)).bind fun c11 =>
 (br c11
   (some y7.1)
   (some false)).bind fun c12 =>
 br c12
  ((law_net_t 0 30).bind fun y13 =>
  (zq1 y5.1 ([y13.1] : List Pf)).bind fun y14 =>
  br y14.1
   ((law_net_t 0 32).bind fun y15 =>
   (law_net_t 2 31).bind fun y16 =>
   (zq1 y9.1 ([y15.1, y16.1] : List Pf)).bind fun y17 =>
   some (y17.1, ()))
   (some (false, ())))
  (some (false, ()))
noncomputable def internal_stringslite_Cut_t (a0 : ByteArray) (a1 : ByteArray) : Option (ByteArray × ByteArray × Bool × Unit) :=
 (zq6 a0 a1).bind fun y1 =>
 br (decide (y1.1 ≥ 0))
  (req ((decide (0 ≤ y1.1)) && (decide (y1.1 ≤ lenS a0))) <|
  req (i64ok (y1.1 + (lenS a1))) <|
  req (((decide (0 ≤ y1.1 + (lenS a1))) && (decide (y1.1 + (lenS a1) ≤ lenS a0))) && (decide (lenS a0 ≤ lenS a0))) <|
  some (subS a0 0 y1.1, subS a0 (y1.1 + (lenS a1)) (lenS a0), true, ()))
  (some (a0, (ByteArray.empty), false, ()))
noncomputable def strings_Cut_t (a0 : ByteArray) (a1 : ByteArray) : Option (ByteArray × ByteArray × Bool × Unit) :=
 (internal_stringslite_Cut_t a0 a1).bind fun y1 =>
 some (y1.1, y1.2.1, y1.2.2.1, ())
noncomputable def addr_Parse_t (a0 : ByteArray) : Option (Ad × Int × Unit) :=
 (addr_told_t a0).bind fun y1 =>
 br (!y1.2.1)
  (some ((⟨false, 0, 0⟩ : Ad), 1, ()))
  (some (y1.1, 0, ()))
noncomputable def prefix_Parse_t (a0 : ByteArray) : Option (Pf × Int × Unit) :=
 (strings_Cut_t a0 (⟨#[47]⟩ : ByteArray)).bind fun y1 =>
 (addr_Parse_t y1.1).bind fun y2 =>
 (prefix_Digits_t y1.2.1).bind fun y3 =>
 (br (!y1.2.2.1)
   (some true)
   (some (!decide (y2.2.1 = 0)))).bind fun c4 =>
 (br c4
   (some true)
   (some (!y3.2.1))).bind fun c5 =>
 br c5
  (some ((⟨(⟨false, 0, 0⟩ : Ad), 0⟩ : Pf), 1, ()))
  ((zq20 (⟨y2.1, y3.1⟩ : Pf)).bind fun y6 =>
  br (!decide (y6.1 = 0))
   (some ((⟨(⟨false, 0, 0⟩ : Ad), 0⟩ : Pf), y6.1, ()))
   (some ((⟨y2.1, y3.1⟩ : Pf), 0, ())))
noncomputable def addr_groups_L3 (rec : (((Int × Unit) × (Unit) × (Unit) × (Int × Unit) × Unit) × ((Ad × Unit) × List ByteArray × Unit)) → Option (((Unit) × Unit) × (List ByteArray × Unit))) (x : (((Int × Unit) × (Unit) × (Unit) × (Int × Unit) × Unit) × ((Ad × Unit) × List ByteArray × Unit))) : Option (((Unit) × Unit) × (List ByteArray × Unit)) :=
 let v0 := x.1.1.1
 let v1 := x.1.2.2.2.1.1
 let v2 := x.2.1.1
 let v3 := x.2.2.1
 br (decide (v1 < v0))
  ((addr_group_t v2 v1).bind fun y1 =>
  (zq34 y1.1 16).bind fun y2 =>
  req (room (lenL v3) (lenL ([y2.1] : List ByteArray))) <|
  req (i64ok (v1 + 1)) <|
  rec (((v0, ()), (()), (()), (v1 + 1, ()), ()), ((v2, ()), v3 ++ ([y2.1] : List ByteArray), ())))
  (some (((()), ()), (v3, ())))
noncomputable def zq3 (a0 : Ad) (a1 : Int) (a2 : Int) : Option (ByteArray × Unit) :=
 (loopN addr_groups_L3 FUEL (((a2, ()), (()), (()), (a1, ()), ()), ((a0, ()), ([] : List ByteArray), ()))).bind fun y1 =>
 (strings_Join_t y1.2.1 (⟨#[58]⟩ : ByteArray)).bind fun y2 =>
 some (y2.1, ())
noncomputable def addr_Text_L4 (rec : (((Unit) × (Unit) × (Int × Unit) × Unit) × ((Ad × Unit) × List ByteArray × Unit)) → Option (((Unit) × Unit) × (List ByteArray × Unit))) (x : (((Unit) × (Unit) × (Int × Unit) × Unit) × ((Ad × Unit) × List ByteArray × Unit))) : Option (((Unit) × Unit) × (List ByteArray × Unit)) :=
 let v0 := x.1.2.2.1.1
 let v1 := x.2.1.1
 let v2 := x.2.2.1
 br (decide (v0 ≥ 0))
  (req (decide (0 ≤ v0)) <|
  (zq34 (aop .and .u64 (aop .shr .u64 v1.lo v0) 255) 10).bind fun y1 =>
  req (room (lenL v2) (lenL ([y1.1] : List ByteArray))) <|
  req (i64ok (v0 - 8)) <|
  rec (((()), (()), (v0 - 8, ()), ()), ((v1, ()), v2 ++ ([y1.1] : List ByteArray), ())))
  (some (((()), ()), (v2, ())))
noncomputable def addr_Text_t (a0 : Ad) : Option (ByteArray × Unit) :=
 br (!a0.v6)
  ((loopN addr_Text_L4 FUEL (((()), (()), (24, ()), ()), ((a0, ()), ([] : List ByteArray), ()))).bind fun y1 =>
  (strings_Join_t y1.2.1 (⟨#[46]⟩ : ByteArray)).bind fun y2 =>
  some (y2.1, ()))
  ((addr_longest_t a0).bind fun y1 =>
  br (decide (y1.2.1 = 0))
   ((zq3 a0 0 8).bind fun y2 =>
   some (y2.1, ()))
   ((zq3 a0 0 y1.1).bind fun y2 =>
   req (roomS (catS y2.1 (⟨#[58, 58]⟩ : ByteArray))) <|
   req (i64ok (y1.1 + y1.2.1)) <|
   (zq3 a0 (y1.1 + y1.2.1) 8).bind fun y3 =>
   req (roomS (catS (catS y2.1 (⟨#[58, 58]⟩ : ByteArray)) y3.1)) <|
   some (catS (catS y2.1 (⟨#[58, 58]⟩ : ByteArray)) y3.1, ())))
noncomputable def prefix_Text_t (a0 : Pf) : Option (ByteArray × Unit) :=
 (addr_Text_t a0.ad).bind fun y1 =>
 req (roomS (catS y1.1 (⟨#[47]⟩ : ByteArray))) <|
 (strconv_Itoa_t a0.bits).bind fun y2 =>
 req (roomS (catS (catS y1.1 (⟨#[47]⟩ : ByteArray)) y2.1)) <|
 some (catS (catS y1.1 (⟨#[47]⟩ : ByteArray)) y2.1, ())
noncomputable def prefix_Print_t (a0 : Pf) : Option (ByteArray × Int × Unit) :=
 (zq20 a0).bind fun y1 =>
 br (!decide (y1.1 = 0))
  (some ((ByteArray.empty), y1.1, ()))
  ((prefix_Text_t a0).bind fun y2 =>
  some (y2.1, 0, ()))
noncomputable def zq10 : Option (Bool × Unit) :=
 (prefix_Parse_t (⟨#[49, 48, 46, 48, 46, 48, 46, 48, 47, 51, 48]⟩ : ByteArray)).bind fun y1 =>
 (law_net_t 167772162 31).bind fun y2 =>
 (zq21 y1.1 y2.1).bind fun y3 =>
 (prefix_Ends_t y1.1).bind fun y4 =>
 (prefix_Halves_t y1.1).bind fun y5 =>
 (zq22 y5.1 y5.2.1).bind fun y6 =>
 (prefix_Print_t y5.2.1).bind fun y7 =>
 (br (decide (y1.2.1 = 0))
   (some (decide (y3.2.1 = 0)))
   (some false)).bind fun c8 =>
 (br c8
   (some (decide (y4.2.2.1 = 0)))
   (some false)).bind fun c9 =>
 (br c9
   (some (decide (y5.2.2.1 = 0)))
   (some false)).bind fun c10 =>
 (br c10
   (some (decide (y6.2.1 = 0)))
   (some false)).bind fun c11 =>
 (br c11
   (some (decide (y7.2.1 = 0)))
   (some false)).bind fun c12 =>
 (br c12
   ((law_net_t 1 31).bind fun y13 =>
   (zq20 y13.1).bind fun y14 =>
   some (decide (y14.1 = 4)))
   (some false)).bind fun c13 =>
 (br c13
   (some y3.1)
   (some false)).bind fun c14 =>
 (br c14
   ((law_v4_t 167772160).bind fun y15 =>
   some (eqAd y4.1 y15.1))
   (some false)).bind fun c15 =>
 (br c15
   ((law_v4_t 167772163).bind fun y16 =>
   some (eqAd y4.2.1 y16.1))
   (some false)).bind fun c16 =>
 (br c16
   (some (eqPf y6.1 y1.1))
   (some false)).bind fun c17 =>
 (br c17
   (some (strcmp .eql y7.1 (⟨#[49, 48, 46, 48, 46, 48, 46, 50, 47, 51, 49]⟩ : ByteArray)))
   (some false)).bind fun c18 =>
 some (c18, ())
noncomputable def law_SpanSame_L17 (rec : (((Unit) × (Unit) × (Unit) × (Int × Unit) × Unit) × (List Pf × List Pf × List Pf × Unit)) → Option (((Unit) × (Unit) × Unit) × (List Pf × List Pf × List Pf × Unit))) (x : (((Unit) × (Unit) × (Unit) × (Int × Unit) × Unit) × (List Pf × List Pf × List Pf × Unit))) : Option (((Unit) × (Unit) × Unit) × (List Pf × List Pf × List Pf × Unit)) :=
 let v0 := x.1.2.2.2.1.1
 let v1 := x.2.1
 let v2 := x.2.2.1
 let v3 := x.2.2.2.1
 br (decide (v0 ≥ 0))
  (req (inRange v0 (lenL v1)) <|
  (geti v1 v0).bind fun p1 =>
  req (room (lenL v3) (lenL ([p1] : List Pf))) <|
  req (i64ok (v0 - 1)) <|
  rec (((()), (()), (()), (v0 - 1, ()), ()), (v1, v2, v3 ++ ([p1] : List Pf), ())))
  (some (((()), (()), ()), (v1, v2, v3, ())))
noncomputable def law_SpanSame_t (a0 : List Pf) (a1 : Pf) (a2 : Ad) : Option (Bool × Unit) :=
 law_spanBegun_t.bind fun y1 =>
 (br (!y1.1)
   (some true)
   (zq10.bind fun y2 =>
   some (!y2.1))).bind fun c2 =>
 br c2
  (some (false, ()))
  ((span_Norm_t a0).bind fun y3 =>
  (span_Minus_t a0 a1).bind fun y4 =>
  (span_Has_t a0 a2).bind fun y5 =>
  (br (!decide (y3.2.1 = 0))
    (some true)
    (some (!decide (y4.2.1 = 0)))).bind fun c6 =>
  (br c6
    (some true)
    (some (!decide (y5.2.1 = 0)))).bind fun c7 =>
  br c7
   ((br (decide (y3.2.1 = 0))
     (some true)
     (some (decide (lenL y3.1 = 0)))).bind fun c8 =>
   (br c8
     (br (decide (y4.2.1 = 0))
      (some true)
      (some (decide (lenL y4.1 = 0))))
     (some false)).bind fun c9 =>
   some (c9, ()))
   ((br (decide (lenL y3.1 > 12))
     (some true)
     (some (decide (lenL y4.1 > 12)))).bind fun c8 =>
   br c8
    (some (decide (lenL y3.1 ≤ lenL a0), ()))
    ((span_Has_t y3.1 a2).bind fun y9 =>
    (span_Has_t y4.1 a2).bind fun y10 =>
    (span_Norm_t y3.1).bind fun y11 =>
    (br (!decide (y9.2.1 = 0))
      (some true)
      (some (!decide (y10.2.1 = 0)))).bind fun c12 =>
    (br c12
      (some true)
      (some (!decide (y11.2.1 = 0)))).bind fun c13 =>
    (br c13
      (some true)
      (some (!(beqB y9.1 y5.1)))).bind fun c14 =>
    (br c14
      (some true)
      (br y5.1
       ((R_HasAddr_t a1 a2).bind fun y15 =>
       some (!(beqB y10.1 (!y15.1))))
       (some (!(beqB y10.1 false))))).bind fun c15 =>
    (br c15
      (some true)
      ((zq1 y11.1 y3.1).bind fun y16 =>
      some (!y16.1))).bind fun c16 =>
    br c16
     (some (false, ()))
     (req (i64ok ((lenL a0) - 1)) <|
     (loopN law_SpanSame_L17 FUEL (((()), (()), (()), ((lenL a0) - 1, ()), ()), (a0, y3.1, ([] : List Pf), ()))).bind fun y17 =>
     (span_Norm_t y17.2.2.2.1).bind fun y18 =>
     (br (decide (y18.2.1 = 0))
       ((zq1 y18.1 y17.2.2.1).bind fun y19 =>
       some y19.1)
       (some false)).bind fun c19 =>
     some (c19, ())))))
noncomputable def zq9 (rec : (((Unit) × (Unit) × (Int × Unit) × (Int × Unit) × Unit) × (List Pf × List Pf × Unit)) → Option ((((Bool × Unit) × Unit) × (List Pf × Unit)) ⊕ (((Unit) × (Unit) × (Int × Unit) × Unit) × (List Pf × List Pf × Unit)))) (x : (((Unit) × (Unit) × (Int × Unit) × (Int × Unit) × Unit) × (List Pf × List Pf × Unit))) : Option ((((Bool × Unit) × Unit) × (List Pf × Unit)) ⊕ (((Unit) × (Unit) × (Int × Unit) × Unit) × (List Pf × List Pf × Unit))) :=
 let v0 := x.1.2.2.1.1
 let v1 := x.1.2.2.2.1.1
 let v2 := x.2.1
 let v3 := x.2.2.1
 br (decide (v1 < v0))
  (req (inRange v1 (lenL v3)) <|
  (geti v3 v1).bind fun p1 =>
  req (inRange v0 (lenL v3)) <|
  (geti v3 v0).bind fun p2 =>
  (zq21 p1 p2).bind fun y3 =>
  req (inRange v0 (lenL v3)) <|
  (geti v3 v0).bind fun p4 =>
  req (inRange v1 (lenL v3)) <|
  (geti v3 v1).bind fun p5 =>
  (zq21 p4 p5).bind fun y6 =>
  req (inRange v1 (lenL v3)) <|
  (geti v3 v1).bind fun p7 =>
  req (inRange v0 (lenL v3)) <|
  (geti v3 v0).bind fun p8 =>
  dup 1 <|
  (zq22 p7 p8).bind fun y9 =>
  req (inRange v1 (lenL v3)) <|
  req (inRange v1 (lenL v3)) <|
  (geti v3 v1).bind fun p10 =>
  req (inRange v0 (lenL v3)) <|
  req (inRange v0 (lenL v3)) <|
  (geti v3 v0).bind fun p11 =>
  (zq2 p10.ad p11.ad).bind fun y12 =>
  (br (!decide (y3.2.1 = 0))
    (some true)
    (some (!decide (y6.2.1 = 0)))).bind fun c13 =>
  (br c13
    (some true)
    (some (!decide (y12.2.1 = 0)))).bind fun c14 =>
  (br c14
    (some true)
    (some y3.1)).bind fun c15 =>
  (br c15
    (some true)
    (some y6.1)).bind fun c16 =>
  (br c16
    (some true)
    (some (!decide (y9.2.1 = 4)))).bind fun c17 =>
  (br c17
    (some true)
    (some (!y12.1))).bind fun c18 =>
  br c18
   (some (Sum.inl (((false, ()), ()), (v2, ()))))
   (req (i64ok (v1 + 1)) <|
   rec (((()), (()), (v0, ()), (v1 + 1, ()), ()), (v2, v3, ()))))
  (some (Sum.inr ((((()), (()), (v0, ()), ()), (v2, v3, ())))))
noncomputable def law_SpanApart_L7 (rec : (((Unit) × (Unit) × (Int × Unit) × Unit) × (List Pf × List Pf × Unit)) → Option ((((Bool × Unit) × Unit) × (List Pf × Unit)) ⊕ (((Unit) × (Unit) × Unit) × (List Pf × List Pf × Unit)))) (x : (((Unit) × (Unit) × (Int × Unit) × Unit) × (List Pf × List Pf × Unit))) : Option ((((Bool × Unit) × Unit) × (List Pf × Unit)) ⊕ (((Unit) × (Unit) × Unit) × (List Pf × List Pf × Unit))) :=
 let v0 := x.1.2.2.1.1
 let v1 := x.2.1
 let v2 := x.2.2.1
 br (decide (v0 < lenL v2))
  (req (inRange v0 (lenL v2)) <|
  (geti v2 v0).bind fun p1 =>
  (zq20 p1).bind fun y2 =>
  br (!decide (y2.1 = 0))
   (some (Sum.inl (((false, ()), ()), (v1, ()))))
   ((loopN zq9 FUEL (((()), (()), (v0, ()), (0, ()), ()), (v1, v2, ()))).bind fun y3 =>
   sumC y3 (fun y4 =>
    some (Sum.inl (((y4.1.1.1, ()), ()), (y4.2.1, ())))) (fun y5 =>
    req (i64ok (y5.1.2.2.1.1 + 1)) <|
    rec (((()), (()), (y5.1.2.2.1.1 + 1, ()), ()), (y5.2.1, y5.2.2.1, ())))))
  (some (Sum.inr ((((()), (()), ()), (v1, v2, ())))))
noncomputable def law_SpanApart_t (a0 : List Pf) : Option (Bool × Unit) :=
 (span_Norm_t a0).bind fun y1 =>
 law_spanBegun_t.bind fun y2 =>
 (br (!y2.1)
   (some true)
   (zq10.bind fun y3 =>
   some (!y3.1))).bind fun c3 =>
 br c3
  (some (false, ()))
  (br (!decide (y1.2.1 = 0))
   (some (decide (lenL y1.1 = 0), ()))
   ((loopN law_SpanApart_L7 FUEL (((()), (()), (0, ()), ()), (a0, y1.1, ()))).bind fun y4 =>
   sumC y4 (fun y5 =>
    some (y5.1.1.1, ())) (fun y6 =>
    some (decide (lenL y6.2.2.1 ≤ lenL y6.2.1), ()))))
noncomputable def law_SpanAdds_L9 (rec : (((Unit) × (Unit) × (Unit) × (Bool × Unit) × (Int × Unit) × Unit) × (List Pf × (Pf × Unit) × List Pf × List Pf × Unit)) → Option ((((Bool × Unit) × Unit) × (List Pf × Unit)) ⊕ (((Unit) × (Unit) × (Unit) × (Bool × Unit) × Unit) × (List Pf × (Pf × Unit) × List Pf × List Pf × Unit)))) (x : (((Unit) × (Unit) × (Unit) × (Bool × Unit) × (Int × Unit) × Unit) × (List Pf × (Pf × Unit) × List Pf × List Pf × Unit))) : Option ((((Bool × Unit) × Unit) × (List Pf × Unit)) ⊕ (((Unit) × (Unit) × (Unit) × (Bool × Unit) × Unit) × (List Pf × (Pf × Unit) × List Pf × List Pf × Unit))) :=
 let v0 := x.1.2.2.2.1.1
 let v1 := x.1.2.2.2.2.1.1
 let v2 := x.2.1
 let v3 := x.2.2.1.1
 let v4 := x.2.2.2.1
 let v5 := x.2.2.2.2.1
 br (decide (v1 < lenL v4))
  (req (inRange v1 (lenL v4)) <|
  (geti v4 v1).bind fun p1 =>
  (zq21 p1 v3).bind fun y2 =>
  br (!decide (y2.2.1 = 0))
   (some (Sum.inl (((false, ()), ()), (v2, ()))))
   ((br v0
     (some true)
     (some y2.1)).bind fun c3 =>
   req (i64ok (v1 + 1)) <|
   rec (((()), (()), (()), (c3, ()), (v1 + 1, ()), ()), (v2, (v3, ()), v4, v5, ()))))
  (some (Sum.inr ((((()), (()), (()), (v0, ()), ()), (v2, (v3, ()), v4, v5, ())))))
noncomputable def zq8 (rec : (((Unit) × (Int × Unit) × Unit) × (List Pf × List Pf × Unit)) → Option ((((Bool × Unit) × Unit) × (List Pf × Unit)) ⊕ ((Unit) × (List Pf × Unit)))) (x : (((Unit) × (Int × Unit) × Unit) × (List Pf × List Pf × Unit))) : Option ((((Bool × Unit) × Unit) × (List Pf × Unit)) ⊕ ((Unit) × (List Pf × Unit))) :=
 let v0 := x.1.2.1.1
 let v1 := x.2.1
 let v2 := x.2.2.1
 (br (decide (v0 < lenL v2))
   (some (decide (lenL v2 ≤ 12)))
   (some false)).bind fun c1 =>
 br c1
  (req (inRange v0 (lenL v2)) <|
  (geti v2 v0).bind fun p2 =>
  (span_Minus_t v2 p2).bind fun y3 =>
  (br (!decide (y3.2.1 = 0))
    (some true)
    (req (i64ok ((lenL v2) - 1)) <|
    some (!decide (lenL y3.1 = (lenL v2) - 1)))).bind fun c4 =>
  br c4
   (some (Sum.inl (((false, ()), ()), (v1, ()))))
   (req (i64ok (v0 + 1)) <|
   rec (((()), (v0 + 1, ()), ()), (v1, v2, ()))))
  (some (Sum.inr (((()), (v1, ())))))
noncomputable def law_SpanAdds_t (a0 : List Pf) (a1 : Pf) : Option (Bool × Unit) :=
 law_spanBegun_t.bind fun y1 =>
 (br (!y1.1)
   (some true)
   (zq10.bind fun y2 =>
   some (!y2.1))).bind fun c2 =>
 br c2
  (some (false, ()))
  ((span_Norm_t a0).bind fun y3 =>
  (span_Minus_t a0 a1).bind fun y4 =>
  (br (!decide (y3.2.1 = 0))
    (some true)
    (some (!decide (y4.2.1 = 0)))).bind fun c5 =>
  br c5
   (some (true, ()))
   ((loopN law_SpanAdds_L9 FUEL (((()), (()), (()), (false, ()), (0, ()), ()), (a0, (a1, ()), y3.1, y4.1, ()))).bind fun y6 =>
   sumC y6 (fun y7 =>
    some (y7.1.1.1, ())) (fun y8 =>
    (br y8.1.2.2.2.1.1
      (some (decide (lenL y8.2.2.2.2.1 < 12)))
      (some false)).bind fun c9 =>
    br c9
     (both
      (dup 1 <|
      req (room (lenL ([] : List Pf)) (lenL y8.2.2.2.2.1)) <|
      req (room (lenL (([] : List Pf) ++ y8.2.2.2.2.1)) (lenL ([y8.2.2.1.1] : List Pf))) <|
      (span_Norm_t ((([] : List Pf) ++ y8.2.2.2.2.1) ++ ([y8.2.2.1.1] : List Pf))).bind fun y10 =>
      (br (!decide (y10.2.1 = 0))
        (some true)
        ((zq1 y10.1 y8.2.2.2.1).bind fun y11 =>
        some (!y11.1))).bind fun c11 =>
      br c11
       (some (false, ()))
       ((loopN zq8 FUEL (((()), (0, ()), ()), (y8.2.1, y8.2.2.2.1, ()))).bind fun y12 =>
       sumC y12 (fun y13 =>
        some (y13.1.1.1, ())) (fun y14 =>
        some (true, ()))))
      (req (room (lenL ([] : List Pf)) (lenL y8.2.2.2.2.1)) <|
      req (room (lenL (([] : List Pf) ++ y8.2.2.2.2.1)) (lenL ([y8.2.2.1.1] : List Pf))) <|
      (span_Norm_t ((([] : List Pf) ++ y8.2.2.2.2.1) ++ ([y8.2.2.1.1] : List Pf))).bind fun y10 =>
      (br (!decide (y10.2.1 = 0))
        (some true)
        ((zq1 y10.1 y8.2.2.2.1).bind fun y11 =>
        some (!y11.1))).bind fun c11 =>
      br c11
       (some (false, ()))
       ((loopN zq8 FUEL (((()), (0, ()), ()), (y8.2.1, y8.2.2.2.1, ()))).bind fun y12 =>
       sumC y12 (fun y13 =>
        some (y13.1.1.1, ())) (fun y14 =>
        some (true, ())))))
     ((loopN zq8 FUEL (((()), (0, ()), ()), (y8.2.1, y8.2.2.2.1, ()))).bind fun y10 =>
     sumC y10 (fun y11 =>
      some (y11.1.1.1, ())) (fun y12 =>
      some (true, ()))))))
noncomputable def pick_left_L3 (rec : (((Unit) × (Unit) × (Int × Unit) × (Int × Unit) × Unit) × (List Pf × List Pf × Unit)) → Option (((Unit) × Unit) × (List Pf × List Pf × Unit))) (x : (((Unit) × (Unit) × (Int × Unit) × (Int × Unit) × Unit) × (List Pf × List Pf × Unit))) : Option (((Unit) × Unit) × (List Pf × List Pf × Unit)) :=
 let v0 := x.1.2.2.1.1
 let v1 := x.1.2.2.2.1.1
 let v2 := x.2.1
 let v3 := x.2.2.1
 br (decide (v1 < v0))
  (req (inRange v1 (lenL v2)) <|
  (geti v2 v1).bind fun p1 =>
  (span_Less_t v3 p1).bind fun y2 =>
  req (i64ok (v1 + 1)) <|
  rec (((()), (()), (v0, ()), (v1 + 1, ()), ()), (v2, y2.1, ())))
  (some (((()), ()), (v2, v3, ())))
noncomputable def pick_left_t (a0 : Pf) (a1 : List Pf) : Option ((List Pf) × Unit) :=
 (loopN pick_left_L3 FUEL (((()), (()), (lenL a1, ()), (0, ()), ()), (a1, ([a0] : List Pf), ()))).bind fun y1 =>
 some (y1.2.2.1, ())
noncomputable def zq12 (rec : (((Unit) × (Unit) × (Int × Unit) × (Int × Unit) × Unit) × (List Pf × (Pf × Unit) × (Int × Unit) × (Pf × Unit) × List Pf × Unit)) → Option ((((Int × Unit) × Unit) × (List Pf × (Pf × Unit) × (Int × Unit) × (Pf × Unit) × List Pf × Unit)) ⊕ ((Unit) × (List Pf × (Pf × Unit) × (Int × Unit) × (Pf × Unit) × List Pf × Unit)))) (x : (((Unit) × (Unit) × (Int × Unit) × (Int × Unit) × Unit) × (List Pf × (Pf × Unit) × (Int × Unit) × (Pf × Unit) × List Pf × Unit))) : Option ((((Int × Unit) × Unit) × (List Pf × (Pf × Unit) × (Int × Unit) × (Pf × Unit) × List Pf × Unit)) ⊕ ((Unit) × (List Pf × (Pf × Unit) × (Int × Unit) × (Pf × Unit) × List Pf × Unit))) :=
 let v0 := x.1.2.2.1.1
 let v1 := x.1.2.2.2.1.1
 let v2 := x.2.1
 let v3 := x.2.2.1.1
 let v4 := x.2.2.2.1.1
 let v5 := x.2.2.2.2.1.1
 let v6 := x.2.2.2.2.2.1
 br (decide (v1 < v0))
  (req (inRange v1 (lenL v6)) <|
  (geti v6 v1).bind fun p1 =>
  (pick_First_1_t p1 v4).bind fun y2 =>
  br y2.1
   (some (Sum.inl (((v1, ()), ()), (v2, (v3, ()), (v4, ()), (v5, ()), v6, ()))))
   (req (i64ok (v1 + 1)) <|
   rec (((()), (()), (v0, ()), (v1 + 1, ()), ()), (v2, (v3, ()), (v4, ()), (v5, ()), v6, ()))))
  (some (Sum.inr (((()), (v2, (v3, ()), (v4, ()), (v5, ()), v6, ())))))
noncomputable def zq16 (a0 : Pf) (a1 : List Pf) (a2 : Int) : Option (Pf × Int × Unit) :=
 (pick_ready_t a0 a1).bind fun y1 =>
 (br (decide (y1.1 = 0))
   (br (decide (a2 < a0.bits))
    (some true)
    ((prefix_Wide_t a0.ad).bind fun y2 =>
    some (decide (a2 > y2.1))))
   (some false)).bind fun c2 =>
 br c2
  (some ((⟨(⟨false, 0, 0⟩ : Ad), 0⟩ : Pf), 3, ()))
  (br (!decide (y1.1 = 0))
   (some ((⟨(⟨false, 0, 0⟩ : Ad), 0⟩ : Pf), y1.1, ()))
   ((pick_left_t a0 a1).bind fun y3 =>
   (loopN zq12 FUEL (((()), (()), (lenL y3.1, ()), (0, ()), ()), (a1, (a0, ()), (a2, ()), ((⟨(⟨false, 0, 0⟩ : Ad), 0⟩ : Pf), ()), y3.1, ()))).bind fun y4 =>
   sumC y4 (fun y5 =>
    br (decide (y5.1.1.1 < 0))
     (some ((⟨(⟨false, 0, 0⟩ : Ad), 0⟩ : Pf), 8, ()))
     (req (inRange y5.1.1.1 (lenL y5.2.2.2.2.2.1)) <|
     req (inRange y5.1.1.1 (lenL y5.2.2.2.2.2.1)) <|
     (geti y5.2.2.2.2.2.1 y5.1.1.1).bind fun p6 =>
     some ((⟨p6.ad, y5.2.2.2.1.1⟩ : Pf), 0, ()))) (fun y7 =>
    some ((⟨(⟨false, 0, 0⟩ : Ad), 0⟩ : Pf), 8, ()))))
noncomputable def pick_Free_t (a0 : Pf) (a1 : List Pf) : Option ((List Pf) × Int × Unit) :=
 (pick_ready_t a0 a1).bind fun y1 =>
 br (!decide (y1.1 = 0))
  (some (([] : List Pf), y1.1, ()))
  ((pick_left_t a0 a1).bind fun y2 =>
  some (y2.1, 0, ()))
noncomputable def law_pickBegun_t : Option (Bool × Unit) :=
 (law_net_t 0 29).bind fun y1 =>
 (law_net_t 1 32).bind fun y2 =>
 (law_net_t 4 31).bind fun y3 =>
 (pick_Free_t y1.1 ([y2.1, y3.1] : List Pf)).bind fun y4 =>
 (law_net_t 0 29).bind fun y5 =>
 (law_net_t 1 32).bind fun y6 =>
 (law_net_t 4 31).bind fun y7 =>
 (zq16 y5.1 ([y6.1, y7.1] : List Pf) 31).bind fun y8 =>
 (law_net_t 0 29).bind fun y9 =>
 (law_net_t 1 32).bind fun y10 =>
 (law_net_t 4 31).bind fun y11 =>
 (zq16 y9.1 ([y10.1, y11.1] : List Pf) 30).bind fun y12 =>
 br (decide (y4.2.1 = 0))
  (br (decide (y8.2.1 = 0))
   (br (decide (y12.2.1 = 8))
    ((law_net_t 0 32).bind fun y13 =>
    (law_net_t 2 31).bind fun y14 =>
    (law_net_t 6 31).bind fun y15 =>
    (zq1 y4.1 ([y13.1, y14.1, y15.1] : List Pf)).bind fun y16 =>
    br y16.1
     ((law_net_t 2 31).bind fun y17 =>
     some (eqPf y8.1 y17.1, ()))
     (some (false, ())))
    (some (false, ())))
   (some (false, ())))
  (some (false, ()))
noncomputable def addr_Print_t (a0 : Ad) : Option (ByteArray × Int × Unit) :=
 (addr_Check_t a0).bind fun y1 =>
 br (!decide (y1.1 = 0))
  (some ((ByteArray.empty), y1.1, ()))
  ((addr_Text_t a0).bind fun y2 =>
  some (y2.1, 0, ()))
noncomputable def law_addrBegun_t : Option (Bool × Unit) :=
 (addr_Parse_t (⟨#[50, 48, 48, 49, 58, 68, 66, 56, 58, 48, 58, 48, 58, 49, 58, 58, 49, 46, 50, 46, 51, 46, 52]⟩ : ByteArray)).bind fun y1 =>
 (addr_Print_t y1.1).bind fun y2 =>
 (addr_Parse_t (⟨#[49, 48, 46, 48, 46, 48, 46, 50, 53, 53]⟩ : ByteArray)).bind fun y3 =>
 (addr_Next_t y3.1).bind fun y4 =>
 (zq2 y3.1 y1.1).bind fun y5 =>
 (addr_Print_t (⟨true, 0, 0⟩ : Ad)).bind fun y6 =>
 (addr_Parse_t (⟨#[49, 58, 58, 50, 58, 58, 51]⟩ : ByteArray)).bind fun y7 =>
 (br (decide (y1.2.1 = 0))
   (some (decide (y2.2.1 = 0)))
   (some false)).bind fun c8 =>
 (br c8
   (some (decide (y3.2.1 = 0)))
   (some false)).bind fun c9 =>
 (br c9
   (some (decide (y4.2.2.1 = 0)))
   (some false)).bind fun c10 =>
 (br c10
   (some (decide (y5.2.1 = 0)))
   (some false)).bind fun c11 =>
 (br c11
   (some (decide (y6.2.1 = 0)))
   (some false)).bind fun c12 =>
 (br c12
   (some (decide (y7.2.1 = 1)))
   (some false)).bind fun c13 =>
 (br c13
   (some (strcmp .eql y2.1 (⟨#[50, 48, 48, 49, 58, 100, 98, 56, 58, 58, 49, 58, 48, 58, 49, 48, 50, 58, 51, 48, 52]⟩ : ByteArray)))
   (some false)).bind fun c14 =>
 (br c14
   ((law_v4_t 167772415).bind fun y15 =>
   some (eqAd y3.1 y15.1))
   (some false)).bind fun c15 =>
 (br c15
   (some y4.2.1)
   (some false)).bind fun c16 =>
 (br c16
   ((law_v4_t 167772416).bind fun y17 =>
   some (eqAd y4.1 y17.1))
   (some false)).bind fun c17 =>
 (br c17
   (some y5.1)
   (some false)).bind fun c18 =>
 (br c18
   (some (strcmp .eql y6.1 (⟨#[58, 58]⟩ : ByteArray)))
   (some false)).bind fun c19 =>
 some (c19, ())
noncomputable def zq7 (rec : (((Unit) × (Int × Unit) × (Unit) × (Unit) × (Int × Unit) × Unit) × (List Pf × (Pf × Unit) × (Pf × Unit) × Unit)) → Option ((((Bool × Unit) × Unit) × (List Pf × Unit)) ⊕ (((Unit) × (Int × Unit) × (Unit) × (Unit) × Unit) × (List Pf × (Pf × Unit) × (Pf × Unit) × Unit)))) (x : (((Unit) × (Int × Unit) × (Unit) × (Unit) × (Int × Unit) × Unit) × (List Pf × (Pf × Unit) × (Pf × Unit) × Unit))) : Option ((((Bool × Unit) × Unit) × (List Pf × Unit)) ⊕ (((Unit) × (Int × Unit) × (Unit) × (Unit) × Unit) × (List Pf × (Pf × Unit) × (Pf × Unit) × Unit))) :=
 let v0 := x.1.2.1.1
 let v1 := x.1.2.2.2.2.1.1
 let v2 := x.2.1
 let v3 := x.2.2.1.1
 let v4 := x.2.2.2.1.1
 br (decide (v1 < lenL v2))
  (req (inRange v1 (lenL v2)) <|
  (geti v2 v1).bind fun p1 =>
  (zq21 p1 v4).bind fun y2 =>
  req (inRange v1 (lenL v2)) <|
  (geti v2 v1).bind fun p3 =>
  (zq21 v4 p3).bind fun y4 =>
  (br (!decide (y2.2.1 = 0))
    (some true)
    (some (!decide (y4.2.1 = 0)))).bind fun c5 =>
  (br c5
    (some true)
    (some y2.1)).bind fun c6 =>
  (br c6
    (some true)
    (some y4.1)).bind fun c7 =>
  br c7
   (some (Sum.inl (((false, ()), ()), (v2, ()))))
   (req (i64ok (v1 + 1)) <|
   rec (((()), (v0, ()), (()), (()), (v1 + 1, ()), ()), (v2, (v3, ()), (v4, ()), ()))))
  (some (Sum.inr ((((()), (v0, ()), (()), (()), ()), (v2, (v3, ()), (v4, ()), ())))))
noncomputable def law_PickClear_t (a0 : Pf) (a1 : List Pf) (a2 : Int) : Option (Bool × Unit) :=
 (zq16 a0 a1 a2).bind fun y1 =>
 law_pickBegun_t.bind fun y2 =>
 (br (!y2.1)
   (some true)
   (zq10.bind fun y3 =>
   some (!y3.1))).bind fun c3 =>
 (br c3
   (some true)
   (law_addrBegun_t.bind fun y4 =>
   some (!y4.1))).bind fun c4 =>
 br c4
  (some (false, ()))
  (br (!decide (y1.2.1 = 0))
   (some (eqPf y1.1 (⟨(⟨false, 0, 0⟩ : Ad), 0⟩ : Pf), ()))
   ((zq21 a0 y1.1).bind fun y5 =>
   (br (!decide (y5.2.1 = 0))
     (some true)
     (some (!y5.1))).bind fun c6 =>
   (br c6
     (some true)
     (some (!decide (y1.1.bits = a2)))).bind fun c7 =>
   (br c7
     (some true)
     ((zq20 y1.1).bind fun y8 =>
     some (!decide (y8.1 = 0)))).bind fun c8 =>
   br c8
    (some (false, ()))
    ((loopN zq7 FUEL (((()), (a2, ()), (()), (()), (0, ()), ()), (a1, (a0, ()), (y1.1, ()), ()))).bind fun y9 =>
    sumC y9 (fun y10 =>
     some (y10.1.1.1, ())) (fun y11 =>
     br (decide (lenL y11.2.1 = 12))
      (some (true, ()))
      (both
       (both
        (req (room (lenL ([] : List Pf)) (lenL y11.2.1)) <|
        both
         (both
          (req (room (lenL (([] : List Pf) ++ y11.2.1)) (lenL ([y11.2.2.2.1.1] : List Pf))) <|
          dup 1 <|
          (zq16 y11.2.2.1.1 ((([] : List Pf) ++ y11.2.1) ++ ([y11.2.2.2.1.1] : List Pf)) y11.1.2.1.1).bind fun y12 =>
          br (!decide (y12.2.1 = 0))
           (some (decide (y12.2.1 = 8), ()))
           ((zq2 y11.2.2.2.1.1.ad y12.1.ad).bind fun y13 =>
           (br (decide (y13.2.1 = 0))
             (some y13.1)
             (some false)).bind fun c14 =>
           some (c14, ())))
          (req (room (lenL (([] : List Pf) ++ y11.2.1)) (lenL ([y11.2.2.2.1.1] : List Pf))) <|
          (zq16 y11.2.2.1.1 ((([] : List Pf) ++ y11.2.1) ++ ([y11.2.2.2.1.1] : List Pf)) y11.1.2.1.1).bind fun y12 =>
          br (!decide (y12.2.1 = 0))
           (some (decide (y12.2.1 = 8), ()))
           ((zq2 y11.2.2.2.1.1.ad y12.1.ad).bind fun y13 =>
           (br (decide (y13.2.1 = 0))
             (some y13.1)
             (some false)).bind fun c14 =>
           some (c14, ()))))
         (req (room (lenL (([] : List Pf) ++ y11.2.1)) (lenL ([y11.2.2.2.1.1] : List Pf))) <|
         (zq16 y11.2.2.1.1 ((([] : List Pf) ++ y11.2.1) ++ ([y11.2.2.2.1.1] : List Pf)) y11.1.2.1.1).bind fun y12 =>
         br (!decide (y12.2.1 = 0))
          (some (decide (y12.2.1 = 8), ()))
          ((zq2 y11.2.2.2.1.1.ad y12.1.ad).bind fun y13 =>
          (br (decide (y13.2.1 = 0))
            (some y13.1)
            (some false)).bind fun c14 =>
          some (c14, ()))))
        (both
         (both
          (req (room (lenL ([] : List Pf)) (lenL y11.2.1)) <|
          both
           (req (room (lenL (([] : List Pf) ++ y11.2.1)) (lenL ([y11.2.2.2.1.1] : List Pf))) <|
           dup 1 <|
           (zq16 y11.2.2.1.1 ((([] : List Pf) ++ y11.2.1) ++ ([y11.2.2.2.1.1] : List Pf)) y11.1.2.1.1).bind fun y12 =>
           br (!decide (y12.2.1 = 0))
            (some (decide (y12.2.1 = 8), ()))
            ((zq2 y11.2.2.2.1.1.ad y12.1.ad).bind fun y13 =>
            (br (decide (y13.2.1 = 0))
              (some y13.1)
              (some false)).bind fun c14 =>
            some (c14, ())))
           (req (room (lenL (([] : List Pf) ++ y11.2.1)) (lenL ([y11.2.2.2.1.1] : List Pf))) <|
           (zq16 y11.2.2.1.1 ((([] : List Pf) ++ y11.2.1) ++ ([y11.2.2.2.1.1] : List Pf)) y11.1.2.1.1).bind fun y12 =>
           br (!decide (y12.2.1 = 0))
            (some (decide (y12.2.1 = 8), ()))
            ((zq2 y11.2.2.2.1.1.ad y12.1.ad).bind fun y13 =>
            (br (decide (y13.2.1 = 0))
              (some y13.1)
              (some false)).bind fun c14 =>
            some (c14, ()))))
          (req (room (lenL ([] : List Pf)) (lenL y11.2.1)) <|
          req (room (lenL (([] : List Pf) ++ y11.2.1)) (lenL ([y11.2.2.2.1.1] : List Pf))) <|
          (zq16 y11.2.2.1.1 ((([] : List Pf) ++ y11.2.1) ++ ([y11.2.2.2.1.1] : List Pf)) y11.1.2.1.1).bind fun y12 =>
          br (!decide (y12.2.1 = 0))
           (some (decide (y12.2.1 = 8), ()))
           ((zq2 y11.2.2.2.1.1.ad y12.1.ad).bind fun y13 =>
           (br (decide (y13.2.1 = 0))
             (some y13.1)
             (some false)).bind fun c14 =>
           some (c14, ()))))
         (dup 1 <|
         req (room (lenL ([] : List Pf)) (lenL y11.2.1)) <|
         req (room (lenL (([] : List Pf) ++ y11.2.1)) (lenL ([y11.2.2.2.1.1] : List Pf))) <|
         (zq16 y11.2.2.1.1 ((([] : List Pf) ++ y11.2.1) ++ ([y11.2.2.2.1.1] : List Pf)) y11.1.2.1.1).bind fun y12 =>
         br (!decide (y12.2.1 = 0))
          (some (decide (y12.2.1 = 8), ()))
          ((zq2 y11.2.2.2.1.1.ad y12.1.ad).bind fun y13 =>
          (br (decide (y13.2.1 = 0))
            (some y13.1)
            (some false)).bind fun c14 =>
          some (c14, ())))))
       (both
        (both
         (both
          (req (room (lenL ([] : List Pf)) (lenL y11.2.1)) <|
          both
           (req (room (lenL (([] : List Pf) ++ y11.2.1)) (lenL ([y11.2.2.2.1.1] : List Pf))) <|
           dup 1 <|
           (zq16 y11.2.2.1.1 ((([] : List Pf) ++ y11.2.1) ++ ([y11.2.2.2.1.1] : List Pf)) y11.1.2.1.1).bind fun y12 =>
           br (!decide (y12.2.1 = 0))
            (some (decide (y12.2.1 = 8), ()))
            ((zq2 y11.2.2.2.1.1.ad y12.1.ad).bind fun y13 =>
            (br (decide (y13.2.1 = 0))
              (some y13.1)
              (some false)).bind fun c14 =>
            some (c14, ())))
           (req (room (lenL (([] : List Pf) ++ y11.2.1)) (lenL ([y11.2.2.2.1.1] : List Pf))) <|
           (zq16 y11.2.2.1.1 ((([] : List Pf) ++ y11.2.1) ++ ([y11.2.2.2.1.1] : List Pf)) y11.1.2.1.1).bind fun y12 =>
           br (!decide (y12.2.1 = 0))
            (some (decide (y12.2.1 = 8), ()))
            ((zq2 y11.2.2.2.1.1.ad y12.1.ad).bind fun y13 =>
            (br (decide (y13.2.1 = 0))
              (some y13.1)
              (some false)).bind fun c14 =>
            some (c14, ()))))
          (req (room (lenL ([] : List Pf)) (lenL y11.2.1)) <|
          req (room (lenL (([] : List Pf) ++ y11.2.1)) (lenL ([y11.2.2.2.1.1] : List Pf))) <|
          (zq16 y11.2.2.1.1 ((([] : List Pf) ++ y11.2.1) ++ ([y11.2.2.2.1.1] : List Pf)) y11.1.2.1.1).bind fun y12 =>
          br (!decide (y12.2.1 = 0))
           (some (decide (y12.2.1 = 8), ()))
           ((zq2 y11.2.2.2.1.1.ad y12.1.ad).bind fun y13 =>
           (br (decide (y13.2.1 = 0))
             (some y13.1)
             (some false)).bind fun c14 =>
           some (c14, ()))))
         (req (room (lenL ([] : List Pf)) (lenL y11.2.1)) <|
         req (room (lenL (([] : List Pf) ++ y11.2.1)) (lenL ([y11.2.2.2.1.1] : List Pf))) <|
         (zq16 y11.2.2.1.1 ((([] : List Pf) ++ y11.2.1) ++ ([y11.2.2.2.1.1] : List Pf)) y11.1.2.1.1).bind fun y12 =>
         br (!decide (y12.2.1 = 0))
          (some (decide (y12.2.1 = 8), ()))
          ((zq2 y11.2.2.2.1.1.ad y12.1.ad).bind fun y13 =>
          (br (decide (y13.2.1 = 0))
            (some y13.1)
            (some false)).bind fun c14 =>
          some (c14, ()))))
        (both
         (dup 1 <|
         req (room (lenL ([] : List Pf)) (lenL y11.2.1)) <|
         req (room (lenL (([] : List Pf) ++ y11.2.1)) (lenL ([y11.2.2.2.1.1] : List Pf))) <|
         (zq16 y11.2.2.1.1 ((([] : List Pf) ++ y11.2.1) ++ ([y11.2.2.2.1.1] : List Pf)) y11.1.2.1.1).bind fun y12 =>
         br (!decide (y12.2.1 = 0))
          (some (decide (y12.2.1 = 8), ()))
          ((zq2 y11.2.2.2.1.1.ad y12.1.ad).bind fun y13 =>
          (br (decide (y13.2.1 = 0))
            (some y13.1)
            (some false)).bind fun c14 =>
          some (c14, ())))
         (req (room (lenL ([] : List Pf)) (lenL y11.2.1)) <|
         req (room (lenL (([] : List Pf) ++ y11.2.1)) (lenL ([y11.2.2.2.1.1] : List Pf))) <|
         (zq16 y11.2.2.1.1 ((([] : List Pf) ++ y11.2.1) ++ ([y11.2.2.2.1.1] : List Pf)) y11.1.2.1.1).bind fun y12 =>
         br (!decide (y12.2.1 = 0))
          (some (decide (y12.2.1 = 8), ()))
          ((zq2 y11.2.2.2.1.1.ad y12.1.ad).bind fun y13 =>
          (br (decide (y13.2.1 = 0))
            (some y13.1)
            (some false)).bind fun c14 =>
          some (c14, ()))))))))))
noncomputable def law_PickAll_t (a0 : Pf) (a1 : Pf) (a2 : Int) : Option (Bool × Unit) :=
 law_pickBegun_t.bind fun y1 =>
 (br (!y1.1)
   (some true)
   (zq10.bind fun y2 =>
   some (!y2.1))).bind fun c2 =>
 br c2
  (some (false, ()))
  ((pick_Free_t a0 []).bind fun y3 =>
  br (!decide (y3.2.1 = 0))
   (some (decide (lenL y3.1 = 0), ()))
   ((pick_Free_t a0 ([a0] : List Pf)).bind fun y4 =>
   (br (!decide (y4.2.1 = 0))
     (some true)
     (some (decide (lenL y4.1 > 0)))).bind fun c5 =>
   (br c5
     (some true)
     (some (!decide (lenL y3.1 = 1)))).bind fun c6 =>
   (br c6
     (some true)
     (req (inRange 0 (lenL y3.1)) <|
     (geti y3.1 0).bind fun p7 =>
     some (!(eqPf p7 a0)))).bind fun c7 =>
   br c7
    (some (false, ()))
    ((zq16 a0 [] a2).bind fun y8 =>
    (br (decide (y8.2.1 = 0))
      (br (!(eqAd y8.1.ad a0.ad))
       (some true)
       (some (!decide (y8.1.bits = a2))))
      (some false)).bind fun c9 =>
    br c9
     (some (false, ()))
     ((zq21 a0 a1).bind fun y10 =>
     (zq21 a1 a0).bind fun y11 =>
     (br (!decide (y10.2.1 = 0))
       (some true)
       (some (!decide (y11.2.1 = 0)))).bind fun c12 =>
     (br c12
       (some true)
       (some y10.1)).bind fun c13 =>
     (br c13
       (some true)
       (some y11.1)).bind fun c14 =>
     br c14
      (some (true, ()))
      ((zq16 a0 ([a1] : List Pf) a2).bind fun y15 =>
      (br (decide (y8.2.1 = y15.2.1))
        (some (eqPf y8.1 y15.1))
        (some false)).bind fun c16 =>
      some (c16, ()))))))
noncomputable def law_PrefixHalves_t (a0 : Pf) : Option (Bool × Unit) :=
 (prefix_Halves_t a0).bind fun y1 =>
 zq10.bind fun y2 =>
 (br (!y2.1)
   (some true)
   (law_addrBegun_t.bind fun y3 =>
   some (!y3.1))).bind fun c3 =>
 br c3
  (some (false, ()))
  ((prefix_Print_t a0).bind fun y4 =>
  br (decide (y4.2.1 = 0))
   ((prefix_Parse_t y4.1).bind fun y5 =>
   (br (!decide (y5.2.1 = 0))
     (some true)
     (some (!(eqPf y5.1 a0)))).bind fun c6 =>
   br c6
    (some (false, ()))
    (br (!decide (y1.2.2.1 = 0))
     ((br (!decide (y1.2.2.1 = 5))
       (some true)
       (br a0.ad.v6
        (some (decide (a0.bits = 128)))
        (some false))).bind fun c7 =>
     (br c7
       (some true)
       (some (decide (a0.bits = 32)))).bind fun c8 =>
     some (c8, ()))
     ((zq22 y1.1 y1.2.1).bind fun y7 =>
     (prefix_Ends_t y1.1).bind fun y8 =>
     (prefix_Ends_t y1.2.1).bind fun y9 =>
     (prefix_Ends_t a0).bind fun y10 =>
     (addr_Next_t y8.2.1).bind fun y11 =>
     (br (decide (y7.2.1 = 0))
       (some (eqPf y7.1 a0))
       (some false)).bind fun c12 =>
     (br c12
       (some (decide (y8.2.2.1 = 0)))
       (some false)).bind fun c13 =>
     (br c13
       (some (decide (y9.2.2.1 = 0)))
       (some false)).bind fun c14 =>
     (br c14
       (some (decide (y10.2.2.1 = 0)))
       (some false)).bind fun c15 =>
     (br c15
       (some (decide (y11.2.2.1 = 0)))
       (some false)).bind fun c16 =>
     (br c16
       (some y11.2.1)
       (some false)).bind fun c17 =>
     (br c17
       (some (eqAd y11.1 y9.1))
       (some false)).bind fun c18 =>
     (br c18
       (some (eqAd y8.1 y10.1))
       (some false)).bind fun c19 =>
     (br c19
       (some (eqAd y9.2.1 y10.2.1))
       (some false)).bind fun c20 =>
     some (c20, ()))))
   (br (!decide (y1.2.2.1 = 0))
    ((br (!decide (y1.2.2.1 = 5))
      (some true)
      (br a0.ad.v6
       (some (decide (a0.bits = 128)))
       (some false))).bind fun c5 =>
    (br c5
      (some true)
      (some (decide (a0.bits = 32)))).bind fun c6 =>
    some (c6, ()))
    ((zq22 y1.1 y1.2.1).bind fun y5 =>
    (prefix_Ends_t y1.1).bind fun y6 =>
    (prefix_Ends_t y1.2.1).bind fun y7 =>
    (prefix_Ends_t a0).bind fun y8 =>
    (addr_Next_t y6.2.1).bind fun y9 =>
    (br (decide (y5.2.1 = 0))
      (some (eqPf y5.1 a0))
      (some false)).bind fun c10 =>
    (br c10
      (some (decide (y6.2.2.1 = 0)))
      (some false)).bind fun c11 =>
    (br c11
      (some (decide (y7.2.2.1 = 0)))
      (some false)).bind fun c12 =>
    (br c12
      (some (decide (y8.2.2.1 = 0)))
      (some false)).bind fun c13 =>
    (br c13
      (some (decide (y9.2.2.1 = 0)))
      (some false)).bind fun c14 =>
    (br c14
      (some y9.2.1)
      (some false)).bind fun c15 =>
    (br c15
      (some (eqAd y9.1 y7.1))
      (some false)).bind fun c16 =>
    (br c16
      (some (eqAd y6.1 y8.1))
      (some false)).bind fun c17 =>
    (br c17
      (some (eqAd y7.2.1 y8.2.1))
      (some false)).bind fun c18 =>
    some (c18, ()))))
end Go.Ma
namespace Go.Ma
open Go
noncomputable def splitF (p : Pf) : Option (Pf × Pf × Unit) :=
 req (i64ok (p.bits + 1)) <| (prefix_Last_t ⟨p.ad, p.bits + 1⟩).bind fun y1 => (addr_After_t y1.1).bind fun y2 => some (⟨p.ad, p.bits + 1⟩, ⟨y2.1, p.bits + 1⟩, ())
theorem req_twice {X : Type} (c : Bool) (a : Option X) : req c (req c a) = req c a := by cases c <;> rfl
theorem prefix_Split_eq (p : Pf) : prefix_Split_t p = splitF p := by
 unfold prefix_Split_t splitF
 try simp only [dup_eq, both_self]
 cases h : i64ok (p.bits + 1)
 ·rfl
 ·simp only [req_true]
noncomputable def joinF (a b : Pf) : Option (Pf × Bool × Unit) :=
 br (bif decide (a.bits = 0) then true else bif !decide (a.bits = b.bits) then true else !(beqB a.ad.v6 b.ad.v6)) (some ((⟨⟨false, 0, 0⟩, 0⟩ : Pf), false, ()))
  (req (i64ok (a.bits - 1)) <| (prefix_Cut_t a.ad (a.bits - 1)).bind fun y => (splitF ⟨y.1, a.bits - 1⟩).bind fun z => br (eqPf z.1 a) (some (⟨y.1, a.bits - 1⟩, eqPf z.2.1 b, ())) (some (⟨y.1, a.bits - 1⟩, false, ())))
theorem prefix_Joined_eq (a b : Pf) : prefix_Joined_t a b = joinF a b := by
 unfold prefix_Joined_t joinF
 simp only [dup_eq, both_self, prefix_Split_eq, req_twice, br_sb, bind_s]
 cases decide (a.bits = 0) <;> cases decide (a.bits = b.bits) <;> cases beqB a.ad.v6 b.ad.v6 <;> rfl
def afterA (a : Ad) : Ad × Bool × Unit :=
 bif a.v6 && decide (aop .add .u64 a.lo 1 = 0) then (⟨a.v6, aop .add .u64 a.hi 1, aop .add .u64 a.lo 1⟩, !decide (aop .add .u64 a.hi 1 = 0), ())
 else (⟨a.v6, a.hi, aop .add .u64 a.lo 1⟩, bif a.v6 then true else decide (aop .add .u64 a.lo 1 < 4294967296), ())
theorem addr_After_all (a : Ad) : addr_After_t a = some (afterA a) := by
 unfold addr_After_t afterA
 try simp only [dup_eq, both_self]
 cases h : a.v6 <;> cases h2 : decide (aop .add .u64 a.lo 1 = 0) <;> simp [br, h, both_self] <;> rfl
def pb0 : Pf := ⟨⟨false, 0, 167772160⟩, 30⟩
def pb1 : Pf := ⟨⟨false, 0, 167772160⟩, 31⟩
def pb2 : Pf := ⟨⟨false, 0, 167772162⟩, 31⟩
theorem pb_parse : prefix_Parse_t (⟨#[49, 48, 46, 48, 46, 48, 46, 48, 47, 51, 48]⟩ : ByteArray) = some (pb0, 0, ()) := by kernel_rfl
theorem pb_net : law_net_t 167772162 31 = some (pb2, ()) := by kernel_rfl
theorem pb_has : zq21 pb0 pb2 = some (true, 0, ()) := by kernel_rfl
theorem pb_ends : prefix_Ends_t pb0 = some (⟨false, 0, 167772160⟩, ⟨false, 0, 167772163⟩, 0, ()) := by kernel_rfl
theorem pb_split : splitF pb0 = some (pb1, pb2, ()) := by
 unfold splitF
 simp only [addr_After_all]
 kernel_rfl
theorem pb_halves : prefix_Halves_t pb0 = some (pb1, pb2, 0, ()) := by
 unfold prefix_Halves_t
 simp only [dup_eq, both_self, prefix_Split_eq, pb_split]
 kernel_rfl
theorem pb_join : prefix_Joined_t pb1 pb2 = some (pb0, true, ()) := by
 rw [prefix_Joined_eq]
 unfold joinF splitF
 simp only [addr_After_all]
 kernel_rfl
theorem pb_whole : zq22 pb1 pb2 = some (pb0, 0, ()) := by
 unfold zq22
 rw [pb_join]
 kernel_rfl
theorem pb_print : prefix_Print_t pb2 = some (⟨#[49, 48, 46, 48, 46, 48, 46, 50, 47, 51, 49]⟩, 0, ()) := by kernel_rfl
theorem pb_net1 : law_net_t 1 31 = some (⟨⟨false, 0, 1⟩, 31⟩, ()) := by kernel_rfl
theorem pb_chk : zq20 ⟨⟨false, 0, 1⟩, 31⟩ = some (4, ()) := by kernel_rfl
theorem pb_v0 : law_v4_t 167772160 = some (⟨false, 0, 167772160⟩, ()) := by kernel_rfl
theorem pb_v3 : law_v4_t 167772163 = some (⟨false, 0, 167772163⟩, ()) := by kernel_rfl
theorem pb_eq0 : eqPf pb0 pb0 = true := by kernel_rfl
theorem pb_str : strcmp .eql (⟨#[49, 48, 46, 48, 46, 48, 46, 50, 47, 51, 49]⟩ : ByteArray) (⟨#[49, 48, 46, 48, 46, 48, 46, 50, 47, 51, 49]⟩ : ByteArray) = true := by kernel_rfl
theorem pb_a0 : eqAd ⟨false, 0, 167772160⟩ ⟨false, 0, 167772160⟩ = true := by kernel_rfl
theorem pb_a3 : eqAd ⟨false, 0, 167772163⟩ ⟨false, 0, 167772163⟩ = true := by kernel_rfl
theorem prefixBegun_eq : zq10 = some (true, ()) := by
 unfold zq10
 rw [pb_parse, bind_s, pb_net, bind_s, pb_has, bind_s, pb_ends, bind_s, pb_halves, bind_s, pb_whole, bind_s, pb_print, bind_s]
 simp only [decide_true, br_true, bind_s, pb_net1, pb_chk, pb_v0, pb_v3, pb_eq0, pb_str, pb_a0, pb_a3]
end Go.Ma
namespace Go.Ma
open Go
theorem num_lt_iff {a b : Ad} (ha : a.In) (hb : b.In) : a.num < b.num ↔ (a.hi < b.hi ∨ (a.hi = b.hi ∧ a.lo < b.lo)) := by
 obtain ⟨⟨a1, a2⟩, a3, a4⟩ := ha
 obtain ⟨⟨b1, b2⟩, b3, b4⟩ := hb
 unfold Ad.num
 omega
theorem ord_neg {a b : Ad} (ha : a.In) (hb : b.In) : decide (ordA a b < 0) = aheadA a b := by
 have hn := num_lt_iff ha hb
 unfold ordA ordI aheadA
 by_cases hv : a.v6 = b.v6
 ·simp only [hv, ne_eq, not_true, false_and, if_false, decide_eq_decide]
  rw [hn]
  by_cases h1 : a.hi = b.hi
  ·simp only [h1, not_true, if_false]
   by_cases h2 : a.lo < b.lo
   ·simp [h2]
   ·by_cases h3 : a.lo > b.lo
    ·simp [h2, h3]
    ·simp [h2, h3]
  ·simp only [h1, not_false_eq_true, if_true]
   by_cases h2 : a.hi < b.hi
   ·simp [h2]
   ·have h3 : a.hi > b.hi := by omega
    simp [h2, h3]
 ·have hv' : ¬ a.v6 = b.v6 := hv
  simp only [ne_eq, hv', not_false_eq_true, true_and, if_true]
  cases hb6 : b.v6 <;> simp
def lessA (a b : Ad) : Bool × Int × Unit := if chkA a ≠ 0 then (false, chkA a, ()) else if chkA b ≠ 0 then (false, chkA b, ()) else (decide (ordA a b < 0), 0, ())
theorem addr_Less_eq (a b : Ad) : zq2 a b = some (lessA a b) := by
 unfold zq2 lessA
 have hl : loopN addr_Less_L2 FUEL (((), (), (), (lenL [a, b], ()), (0, ()), ()), ((a, ()), (b, ()), [a, b], ())) = some (if chkA a ≠ 0 then Sum.inl (((false, ()), (chkA a, ()), ()), ()) else if chkA b ≠ 0 then Sum.inl (((false, ()), (chkA b, ()), ()), ()) else Sum.inr (((), (), ()), ((a, ()), (b, ()), ()))) := by
  rw [show FUEL = (FUEL - 3) + 1 + 1 + 1 from rfl]
  generalize FUEL - 3 = n
  rw [loopN_succ]
  simp only [addr_Less_L2]
  rw [decide_eq_true (show (0 : Int) < lenL [a, b] by simp [lenL]), br_true, req_of (inRange_of (by omega) (by simp [lenL])), show geti [a, b] 0 = some a from rfl, bind_s, addr_Check_eq, bind_s]
  by_cases h1 : chkA a = 0
  ·rw [decide_eq_true (show (chkA a, ()).1 = 0 from h1), Bool.not_true, br_false, req_of (i64ok_of (by omega) (by omega)), loopN_succ]
   simp only [addr_Less_L2]
   rw [decide_eq_true (show (0 : Int) + 1 < lenL [a, b] by simp [lenL]), br_true, req_of (inRange_of (by omega) (by simp [lenL])), show geti [a, b] (0 + 1) = some b from rfl, bind_s, addr_Check_eq, bind_s]
   simp only [h1, ne_eq, not_true, if_false]
   by_cases h2 : chkA b = 0
   ·rw [decide_eq_true (show (chkA b, ()).1 = 0 from h2), Bool.not_true, br_false, req_of (i64ok_of (by omega) (by omega)), loopN_succ]
    simp only [addr_Less_L2]
    rw [decide_eq_false (show ¬ (0 : Int) + 1 + 1 < lenL [a, b] by simp [lenL]), br_false]
    simp [h2]
   ·rw [decide_eq_false (show ¬ (chkA b, ()).1 = 0 from h2), Bool.not_false, br_true]
    simp [h2]
  ·rw [decide_eq_false (show ¬ (chkA a, ()).1 = 0 from h1), Bool.not_false, br_true]
   simp [h1]
 rw [hl, bind_s]
 by_cases h1 : chkA a = 0
 ·by_cases h2 : chkA b = 0
  ·simp only [h1, h2, ne_eq, not_true, if_false, sumC, addr_Order_eq, bind_s]
  ·simp only [h1, h2, ne_eq, not_true, if_false, not_false_eq_true, if_true, sumC]
 ·simp only [h1, ne_eq, not_false_eq_true, if_true, sumC]
end Go.Ma
namespace Go.Ma
open Go
theorem prefix_Over_eq {p q : Pf} (cp : chkP p = 0) (hq : q.In) : prefix_Over_t p q = some (over p q, ()) := by
 obtain ⟨h1, h2⟩ := chkP_bits cp
 unfold prefix_Over_t over
 rw [prefix_Holds_eq h1 h2 hq.1, bind_s, br_sb, bind_s]
 cases decide (p.bits ≤ q.bits) <;> rfl
end Go.Ma
namespace Go.Ma
open Go
def ab0 : Ad := ⟨true, 2306139568115548160, 281474993619716⟩
theorem ab_parse0 : addr_Parse_t (⟨#[50, 48, 48, 49, 58, 68, 66, 56, 58, 48, 58, 48, 58, 49, 58, 58, 49, 46, 50, 46, 51, 46, 52]⟩ : ByteArray) = some (ab0, 0, ()) := by kernel_rfl
theorem ab_print0 : addr_Print_t ab0 = some (⟨#[50, 48, 48, 49, 58, 100, 98, 56, 58, 58, 49, 58, 48, 58, 49, 48, 50, 58, 51, 48, 52]⟩, 0, ()) := by kernel_rfl
theorem ab_parse1 : addr_Parse_t (⟨#[49, 48, 46, 48, 46, 48, 46, 50, 53, 53]⟩ : ByteArray) = some (⟨false, 0, 167772415⟩, 0, ()) := by kernel_rfl
theorem ab_next : addr_Next_t ⟨false, 0, 167772415⟩ = some (⟨false, 0, 167772416⟩, true, 0, ()) := by
 unfold addr_Next_t
 simp only [addr_After_all]
 kernel_rfl
theorem ab_less : zq2 ⟨false, 0, 167772415⟩ ab0 = some (true, 0, ()) := by kernel_rfl
theorem ab_print1 : addr_Print_t ⟨true, 0, 0⟩ = some (⟨#[58, 58]⟩, 0, ()) := by kernel_rfl
theorem ab_parse2 : addr_Parse_t (⟨#[49, 58, 58, 50, 58, 58, 51]⟩ : ByteArray) = some (⟨false, 0, 0⟩, 1, ()) := by kernel_rfl
theorem addrBegun_eq : law_addrBegun_t = some (true, ()) := by
 unfold law_addrBegun_t
 rw [ab_parse0, bind_s, ab_print0, bind_s, ab_parse1, bind_s, ab_next, bind_s, ab_less, bind_s, ab_print1, bind_s, ab_parse2, bind_s]
 kernel_rfl
end Go.Ma
namespace Go.Ma
open Go
def tabIn (l : List Pf) : Prop := ∀ p ∈ l, p.In
end Go.Ma
namespace Go.Ma
open Go
end Go.Ma
namespace Go.Ma
open Go
end Go.Ma
namespace Go.Ma
open Go
theorem holds_iff {p : Pf} {a : Ad} : holds p a = true ↔ p.ad.v6 = a.v6 ∧ cutA a p.bits = p.ad := by simp [holds]
theorem over_iff {p q : Pf} : over p q = true ↔ p.bits ≤ q.bits ∧ holds p q.ad = true := by simp [over]
theorem prefix_two_eq {p q : Pf} (hp : p.In) (hq : q.In) : prefix_two_t [p, q] = some (if chkP p ≠ 0 then chkP p else chkP q, ()) := by
 unfold prefix_two_t
 have hl : loopN prefix_two_L2 FUEL (((), (lenL [p, q], ()), (0, ()), ()), ([p, q], ())) = some (if (if chkP p ≠ 0 then chkP p else chkP q) ≠ 0 then Sum.inl ((((if chkP p ≠ 0 then chkP p else chkP q), ()), ()), ([p, q], ())) else Sum.inr ((), ([p, q], ()))) := by
  rw [show FUEL = (FUEL - 3) + 1 + 1 + 1 from rfl]
  generalize FUEL - 3 = n
  rw [loopN_succ]
  simp only [prefix_two_L2]
  rw [decide_eq_true (show (0 : Int) < lenL [p, q] by simp [lenL]), br_true, req_of (inRange_of (by omega) (by simp [lenL])), show geti [p, q] 0 = some p from rfl, bind_s, zq18 hp, bind_s]
  by_cases h1 : chkP p = 0
  ·rw [decide_eq_true (show (chkP p, ()).1 = 0 from h1), Bool.not_true, br_false, req_of (i64ok_of (by omega) (by omega)), loopN_succ]
   simp only [prefix_two_L2]
   rw [decide_eq_true (show (0 : Int) + 1 < lenL [p, q] by simp [lenL]), br_true, req_of (inRange_of (by omega) (by simp [lenL])), show geti [p, q] (0 + 1) = some q from rfl, bind_s, zq18 hq, bind_s]
   simp only [h1, ne_eq, not_true, if_false]
   by_cases h2 : chkP q = 0
   ·rw [decide_eq_true (show (chkP q, ()).1 = 0 from h2), Bool.not_true, br_false, req_of (i64ok_of (by omega) (by omega)), loopN_succ]
    simp only [prefix_two_L2]
    rw [decide_eq_false (show ¬ (0 : Int) + 1 + 1 < lenL [p, q] by simp [lenL]), br_false]
    simp [h2]
   ·rw [decide_eq_false (show ¬ (chkP q, ()).1 = 0 from h2), Bool.not_false, br_true]
    simp [h2]
  ·rw [decide_eq_false (show ¬ (chkP p, ()).1 = 0 from h1), Bool.not_false, br_true]
   simp [h1]
 rw [hl, bind_s]
 by_cases h : (if chkP p ≠ 0 then chkP p else chkP q) = 0
 ·rw [if_neg (fun h' => h' h), h]; rfl
 ·rw [if_pos h]; rfl
def hasT (p q : Pf) : Bool × Int × Unit := if chkP p ≠ 0 then (false, chkP p, ()) else if chkP q ≠ 0 then (false, chkP q, ()) else (over p q, 0, ())
theorem prefix_Has_eq {p q : Pf} (hp : p.In) (hq : q.In) : zq21 p q = some (hasT p q) := by
 unfold zq21 hasT
 rw [prefix_two_eq hp hq, bind_s]
 by_cases h1 : chkP p = 0
 ·by_cases h2 : chkP q = 0
  ·simp only [h1, h2, ne_eq, not_true, if_false, decide_true, Bool.not_true, br_false, prefix_Over_eq h1 hq, bind_s]
  ·simp only [h1, h2, ne_eq, not_true, not_false_eq_true, if_false, if_true, decide_false, Bool.not_false, br_true]
 ·simp only [h1, ne_eq, not_false_eq_true, if_true, decide_false, Bool.not_false, br_true]
theorem has_right {p q : Pf} (cp : chkP p = 0) (cq : chkP q = 0) : hasT p q = (over p q, 0, ()) := by simp [hasT, cp, cq]
end Go.Ma
namespace Go.Ma
open Go
theorem or_maskC (x k : Nat) (hx : x < 18446744073709551616) (hk : k ≤ 64) (hm : x % 2 ^ k = 0) : aop .or .u64 (x : Int) ((2 ^ k - 1 : Nat) : Int) = ((x + (2 ^ k - 1) : Nat) : Int) := by
 have hp := Nat.two_pow_pos k
 have hle : 2 ^ k ≤ 2 ^ 64 := Nat.pow_le_pow_right (by omega) hk
 obtain ⟨m, rfl⟩ := Nat.dvd_of_mod_eq_zero hm
 have hlt : 2 ^ k * m + 2 ^ k ≤ 18446744073709551616 := by
  have h5 : (18446744073709551616 : Nat) = 2 ^ k * 2 ^ (64 - k) := by rw [← Nat.pow_add]; rw [show k + (64 - k) = 64 by omega]
  rw [h5] at hx ⊢
  have := Nat.lt_of_mul_lt_mul_left hx
  calc 2 ^ k * m + 2 ^ k = 2 ^ k * (m + 1) := by rw [Nat.mul_add, Nat.mul_one]
   _ ≤ _ := Nat.mul_le_mul_left _ this
 have e1 : ∀ n : Nat, n < 18446744073709551616 → (BitVec.ofInt 64 (n : Int)).toNat = n := fun n hn => by
  rw [BitVec.toNat_ofInt]
  have : ((n : Int) % ((2 ^ 64 : Nat) : Int)) = (n : Int) := Int.emod_eq_of_lt (by omega) (by omega)
  rw [this]; rfl
 show IntKind.u64.wrap (((BitVec.ofInt 64 ((2 ^ k * m : Nat) : Int) ||| BitVec.ofInt 64 ((2 ^ k - 1 : Nat) : Int)).toNat : Nat) : Int) = _
 rw [BitVec.toNat_or, e1 _ (by omega), e1 _ (by omega), ← Nat.two_pow_add_eq_or_of_lt (by omega), wrap_u64 (by omega) (by omega)]
def free (p : Pf) : Nat := wid p.ad.v6 - p.bits.toNat
theorem free_facts {p : Pf} (hp : p.In) (cp : chkP p = 0) : free p ≤ wid p.ad.v6 ∧ p.ad.num % 2 ^ free p = 0 ∧ p.ad.num + 2 ^ free p ≤ 2 ^ wid p.ad.v6 := by
 have h3 : p.ad.num % 2 ^ free p = 0 := (cutN_iff _ _).1 ((cutA_iff hp.1.wf p.bits).1 (chkP_cut cp))
 have h4 := right_num p.ad ⟨hp.1.wf, chkP_ad cp⟩
 have hk : free p ≤ wid p.ad.v6 := by unfold free; omega
 refine ⟨hk, h3, ?_⟩
 have h5 : 2 ^ wid p.ad.v6 = 2 ^ free p * 2 ^ (wid p.ad.v6 - free p) := by rw [← Nat.pow_add]; congr 1; omega
 obtain ⟨m, hm⟩ := Nat.dvd_of_mod_eq_zero h3
 rw [hm, h5] at h4 ⊢
 have := Nat.lt_of_mul_lt_mul_left h4
 calc 2 ^ free p * m + 2 ^ free p = 2 ^ free p * (m + 1) := by rw [Nat.mul_add, Nat.mul_one]
  _ ≤ _ := Nat.mul_le_mul_left _ this
theorem low_high (hi lo k : Nat) (h : (hi * 18446744073709551616 + lo) % 2 ^ k = 0) (hlo : lo < 18446744073709551616) : hi % 2 ^ (k - 64) = 0 ∧ lo % 2 ^ (min k 64) = 0 := by
 by_cases hk : k ≤ 64
 ·have h5 : (18446744073709551616 : Nat) = 2 ^ k * 2 ^ (64 - k) := by rw [← Nat.pow_add]; rw [show k + (64 - k) = 64 by omega]
  rw [h5, Nat.mul_left_comm, Nat.mul_add_mod] at h
  rw [show k - 64 = 0 by omega, Nat.min_eq_left hk]
  exact ⟨Nat.mod_one _, h⟩
 ·have e := pow_split (r := k) (by omega)
  rw [Nat.min_eq_right (by omega)]
  rw [e] at h
  have h1 : lo = 0 := by
   have h2 : (hi * 18446744073709551616 + lo) % 18446744073709551616 = 0 := by
    have h3 := Nat.mod_mul_left_mod (hi * 18446744073709551616 + lo) (2 ^ (k - 64)) 18446744073709551616
    rw [h] at h3
    rw [← h3]
   omega
  subst h1
  rw [Nat.add_zero, Nat.mul_mod_mul_right] at h
  refine ⟨?_, by simp⟩
  have := Nat.mul_eq_zero.1 h
  omega
theorem last_eq {p : Pf} (hp : p.In) (cp : chkP p = 0) : prefix_Last_t p = some (lastA p, ()) := by
 obtain ⟨b1, b2⟩ := chkP_bits cp
 obtain ⟨f1, f2, f3⟩ := free_facts hp cp
 have hw := wid_le p.ad.v6
 obtain ⟨⟨h1, h2⟩, h3, h4⟩ := hp.1
 unfold prefix_Last_t
 rw [prefix_mask_eq p.ad p.bits b1 b2, bind_s, maskA_parts]
 show some (_, ()) = some (ofNum p.ad.v6 (p.ad.num + (2 ^ free p - 1)), ())
 obtain ⟨hi, hhi⟩ := Int.eq_ofNat_of_zero_le h1
 obtain ⟨lo, hlo⟩ := Int.eq_ofNat_of_zero_le h3
 have hnum : p.ad.num = hi * 18446744073709551616 + lo := by unfold Ad.num; rw [hhi, hlo]; rfl
 obtain ⟨g1, g2⟩ := low_high hi lo (free p) (by rw [← hnum]; exact f2) (by omega)
 have o1 : aop .or .u64 p.ad.hi ((2 ^ (wid p.ad.v6 - p.bits.toNat - 64) - 1 : Nat) : Int) = ((hi + (2 ^ (free p - 64) - 1) : Nat) : Int) := by
  rw [hhi]
  exact or_maskC hi (free p - 64) (by omega) (by omega) g1
 have o2 : aop .or .u64 p.ad.lo ((2 ^ (min (wid p.ad.v6 - p.bits.toNat) 64) - 1 : Nat) : Int) = ((lo + (2 ^ (min (free p) 64) - 1) : Nat) : Int) := by
  rw [hlo]
  exact or_maskC lo (min (free p) 64) (by omega) (by omega) g2
 simp only [o1, o2]
 obtain ⟨m1, m2⟩ := mask_parts (free p)
 have hlt : lo + (2 ^ (min (free p) 64) - 1) < 18446744073709551616 := by
  have hle : min (free p) 64 ≤ 64 := by omega
  obtain ⟨m, hm⟩ := Nat.dvd_of_mod_eq_zero g2
  have h5 : (18446744073709551616 : Nat) = 2 ^ (min (free p) 64) * 2 ^ (64 - min (free p) 64) := by rw [← Nat.pow_add]; rw [show min (free p) 64 + (64 - min (free p) 64) = 64 by omega]
  have hl : lo < 18446744073709551616 := by omega
  have hpp := Nat.two_pow_pos (min (free p) 64)
  rw [hm, h5] at hl ⊢
  have := Nat.lt_of_mul_lt_mul_left hl
  have h7 : 2 ^ (min (free p) 64) * m + 2 ^ (min (free p) 64) ≤ 2 ^ (min (free p) 64) * 2 ^ (64 - min (free p) 64) := by
   calc 2 ^ (min (free p) 64) * m + 2 ^ (min (free p) 64) = 2 ^ (min (free p) 64) * (m + 1) := by rw [Nat.mul_add, Nat.mul_one]
    _ ≤ _ := Nat.mul_le_mul_left _ this
  omega
 have hsum : p.ad.num + (2 ^ free p - 1) = (hi + (2 ^ (free p - 64) - 1)) * 18446744073709551616 + (lo + (2 ^ (min (free p) 64) - 1)) := by
  rw [← m1, ← m2, hnum]
  omega
 rw [hsum]
 unfold ofNum
 congr 2
 simp only [Ad.mk.injEq, true_and]
 constructor <;> omega
theorem last_num {p : Pf} (hp : p.In) (cp : chkP p = 0) : (lastA p).num = p.ad.num + (2 ^ free p - 1) ∧ (lastA p).v6 = p.ad.v6 := by
 unfold lastA
 rw [num_ofNum]
 exact ⟨rfl, rfl⟩
theorem ofNum_inC {v : Bool} {n : Nat} (h : n < 2 ^ wid v) : (ofNum v n).In := by
 have : 2 ^ wid v ≤ 340282366920938463463374607431768211456 := by cases v <;> decide
 unfold ofNum
 exact ⟨⟨by simp only; omega, by simp only; omega⟩, by simp only; omega, by simp only; omega⟩
theorem ofNum_chkC {v : Bool} {n : Nat} (h : n < 2 ^ wid v) : chkA (ofNum v n) = 0 := by
 unfold chkA ofNum
 cases v
 ·rw [show wid false = 32 from rfl] at h
  rw [if_neg]
  simp only
  omega
 ·simp
theorem last_in {p : Pf} (hp : p.In) (cp : chkP p = 0) : (lastA p).In ∧ chkA (lastA p) = 0 := by
 obtain ⟨f1, f2, f3⟩ := free_facts hp cp
 have hpp := Nat.two_pow_pos (free p)
 have : p.ad.num + (2 ^ free p - 1) < 2 ^ wid p.ad.v6 := by omega
 exact ⟨ofNum_inC this, ofNum_chkC this⟩
theorem holds_span {p : Pf} {a : Ad} (hp : p.In) (cp : chkP p = 0) (ha : a.In) : holds p a = true ↔ p.ad.v6 = a.v6 ∧ p.ad.num ≤ a.num ∧ a.num < p.ad.num + 2 ^ free p := by
 obtain ⟨f1, f2, f3⟩ := free_facts hp cp
 have hpp := Nat.two_pow_pos (free p)
 rw [holds_iff]
 constructor
 ·rintro ⟨h1, h2⟩
  have h3 : p.ad.num = cutN a.num (free p) := by
   have h4 : (cutA a p.bits).num = cutN a.num (wid a.v6 - p.bits.toNat) := by unfold cutA; rw [num_ofNum]
   rw [h2] at h4
   rw [h4]
   unfold free
   rw [h1]
  unfold cutN at h3
  have := Nat.div_add_mod a.num (2 ^ free p)
  have h5 := Nat.mod_lt a.num hpp
  rw [Nat.mul_comm] at this
  refine ⟨h1, by omega, by omega⟩
 ·rintro ⟨h1, h2, h3⟩
  refine ⟨h1, ?_⟩
  obtain ⟨m, hm⟩ := Nat.dvd_of_mod_eq_zero f2
  have h4 : a.num / 2 ^ free p = m := by
   apply Nat.div_eq_of_lt_le
   ·rw [Nat.mul_comm]; omega
   ·rw [Nat.add_mul, Nat.one_mul, Nat.mul_comm]; omega
  unfold cutA cutN
  rw [show wid a.v6 - p.bits.toNat = free p by unfold free; rw [h1], h4, ← h1, Nat.mul_comm, ← hm, ofNum_num p.ad hp.1.wf]
def endsT (p : Pf) : Ad × Ad × Int × Unit := if chkP p ≠ 0 then (⟨false, 0, 0⟩, ⟨false, 0, 0⟩, chkP p, ()) else (p.ad, lastA p, 0, ())
theorem prefix_Ends_eq {p : Pf} (hp : p.In) : prefix_Ends_t p = some (endsT p) := by
 unfold prefix_Ends_t endsT
 rw [zq18 hp, bind_s]
 by_cases h : chkP p = 0
 ·rw [decide_eq_true (show (chkP p, ()).1 = 0 from h), Bool.not_true, br_false, last_eq hp h, bind_s, if_neg (fun h' => h' h)]
 ·rw [decide_eq_false (show ¬ (chkP p, ()).1 = 0 from h), Bool.not_false, br_true, if_pos h]
theorem ends_right {p : Pf} (cp : chkP p = 0) : endsT p = (p.ad, lastA p, 0, ()) := by
 unfold endsT
 rw [if_neg (fun h => h cp)]
end Go.Ma
namespace Go.Ma
open Go
def lowB (b : UInt8) : Bool := betw (b.toNat : Int) 97 122 || betw (b.toNat : Int) 48 57
def whoOk (s : ByteArray) : Bool := s.data.toList.all lowB && betw (lenS s) 1 8
end Go.Ma
namespace Go.Ma
open Go
def rank (a : Ad) : Nat := (if a.v6 then 340282366920938463463374607431768211456 else 0) + a.num
theorem num_lt {a : Ad} (h : a.In) : a.num < 340282366920938463463374607431768211456 := by
 obtain ⟨⟨h1, h2⟩, h3, h4⟩ := h
 unfold Ad.num
 omega
theorem ord_rank {a b : Ad} (ha : a.In) (hb : b.In) : (ordA a b < 0 ↔ rank a < rank b) ∧ (ordA a b = 0 ↔ rank a = rank b) := by
 have h1 := num_lt ha
 have h2 := num_lt hb
 obtain ⟨⟨a1, a2⟩, a3, a4⟩ := ha
 obtain ⟨⟨b1, b2⟩, b3, b4⟩ := hb
 unfold ordA ordI rank
 unfold Ad.num at *
 cases hv : a.v6 <;> cases hw : b.v6 <;> simp
 ·by_cases h : a.hi = b.hi
  ·simp only [h, if_true]
   by_cases h3 : a.lo < b.lo
   ·simp only [h3, if_true]; omega
   ·by_cases h4 : b.lo < a.lo
    ·simp only [h3, h4, if_true, if_false]; omega
    ·have h5 : a.lo = b.lo := by omega
     simp [h5]
  ·simp only [h, if_false]
   by_cases h3 : a.hi < b.hi
   ·simp only [h3, if_true]; omega
   ·by_cases h4 : b.hi < a.hi
    ·simp only [h3, h4, if_true, if_false]; omega
    ·simp only [h3, h4, if_false]; omega
 ·omega
 ·omega
 ·by_cases h : a.hi = b.hi
  ·simp only [h, if_true]
   by_cases h3 : a.lo < b.lo
   ·simp only [h3, if_true]; omega
   ·by_cases h4 : b.lo < a.lo
    ·simp only [h3, h4, if_true, if_false]; omega
    ·have h5 : a.lo = b.lo := by omega
     simp [h5]
  ·simp only [h, if_false]
   by_cases h3 : a.hi < b.hi
   ·simp only [h3, if_true]; omega
   ·by_cases h4 : b.hi < a.hi
    ·simp only [h3, h4, if_true, if_false]; omega
    ·simp only [h3, h4, if_false]; omega
def lsIn (l : List Ls) : Prop := ∀ x ∈ l, x.In
def chkLs (x : Ls) : Int := if chkA x.ad ≠ 0 then chkA x.ad else if whoOk x.who = false then 1 else if betw x.upto 0 10499 = false then 3 else 0
def chkLsF : List Ls → Int
 | [] => 0
 | x :: r => if chkLs x ≠ 0 then chkLs x else chkLsF r
def ascF : Ad → List Ls → Bool
 | _, [] => true
 | a, x :: r => decide (ordA a x.ad < 0) && ascF x.ad r
def ascL : List Ls → Bool
 | [] => true
 | x :: r => ascF x.ad r
def allC (l : List Ls) (now : Int) : Int := if l.length > 20 then 2 else if chkLsF l ≠ 0 then chkLsF l else if ascL l = false then 4 else if betw now 0 9999 = false then 3 else 0
end Go.Ma
namespace Go.Ma
open Go
end Go.Ma
namespace Go.Ma
open Go
def firstF {α : Type} (q : α → Bool) : List α → Option Nat
 | [] => none
 | x :: r => if q x then some 0 else (firstF q r).map (· + 1)
theorem firstF_at {α : Type} {q : α → Bool} {l : List α} {i : Nat} {x : α} (h : l[i]? = some x) : (firstF q (l.drop i)).map (· + i) = if q x then some i else (firstF q (l.drop (i + 1))).map (· + (i + 1)) := by
 rw [drop_cons h, firstF]
 cases q x
 ·simp only [Bool.false_eq_true, if_false, Option.map_map]
  congr 1
  funext k
  simp only [Function.comp]
  omega
 ·simp
theorem firstF_some {α : Type} {q : α → Bool} : ∀ {l : List α} {k : Nat}, firstF q l = some k → ∃ x, l[k]? = some x ∧ q x = true ∧ ∀ y ∈ l.take k, q y = false
 | [], _, h => by cases h
 | y :: r, k, h => by
  unfold firstF at h
  split at h
  ·rename_i hq
   cases h
   exact ⟨y, rfl, hq, fun z hz => by simp at hz⟩
  ·rename_i hq
   obtain ⟨k', hk, rfl⟩ := Option.map_eq_some_iff.1 h
   obtain ⟨x, h1, h2, h3⟩ := firstF_some hk
   refine ⟨x, by simpa using h1, h2, fun z hz => ?_⟩
   rw [List.take_succ_cons] at hz
   rcases List.mem_cons.1 hz with rfl | hz
   ·simpa using hq
   ·exact h3 z hz
theorem firstF_lt {α : Type} {q : α → Bool} {l : List α} {k : Nat} (h : firstF q l = some k) : k < l.length := by
 obtain ⟨x, h1, _⟩ := firstF_some h
 exact (List.getElem?_eq_some_iff.1 h1).1
theorem firstF_any {α : Type} {q : α → Bool} : ∀ l : List α, (firstF q l).isSome = l.any q
 | [] => rfl
 | x :: r => by
  unfold firstF
  cases h : q x
  ·simp [h, firstF_any r]
  ·simp [h]
end Go.Ma
namespace Go.Ma
open Go
def adIn (l : List Ad) : Prop := ∀ a ∈ l, a.In
def backB : Option Ad → Ad → Bool
 | some b, a => decide (ordA b a ≥ 0)
 | none, _ => false
def keptF (p : Pf) : Option Ad → List Ad → Int
 | _, [] => 0
 | prev, a :: r => if chkA a ≠ 0 then chkA a else if holds p a = false then 5 else if backB prev a = true then 4 else keptF p (some a) r
def chkPool (p : Pf) (kp : List Ad) : Int := if chkP p ≠ 0 then chkP p else if ¬ ((wid p.ad.v6 : Nat) : Int) - p.bits ≤ 4 ∨ kp.length > 6 then 2 else keptF p none kp
end Go.Ma
namespace Go.Ma
open Go
end Go.Ma
namespace Go.Ma
open Go
theorem wid_pow (v : Bool) : 2 ^ wid v ≤ 340282366920938463463374607431768211456 := by cases v <;> decide
theorem addr_After_eq {v : Bool} {n : Nat} (h : n + 1 < 2 ^ wid v) : addr_After_t (ofNum v n) = some (ofNum v (n + 1), true, ()) := by
 unfold addr_After_t
 simp only [both_self, dup_eq]
 have hadd : ∀ m : Nat, aop .add .u64 (m : Int) 1 = (((m + 1) % 18446744073709551616 : Nat) : Int) := fun m => by
  simp only [aop, wrap_u64_mod]
  omega
 have hw := wid_pow v
 cases v
 ·rw [show wid false = 32 from rfl] at h
  have q1 : (n + 1) / 18446744073709551616 = 0 := by omega
  have q2 : n / 18446744073709551616 = 0 := by omega
  have q3 : (n % 18446744073709551616 + 1) % 18446744073709551616 = n + 1 := by omega
  have q4 : (n + 1) % 18446744073709551616 = n + 1 := by omega
  simp only [ofNum, hadd, br_false, bind_s, q1, q2, q3, q4, both_self]
  rw [decide_eq_true (show (((n + 1 : Nat) : Int)) < 4294967296 by omega)]
 ·rw [show wid true = 128 from rfl] at h
  simp only [ofNum, hadd, br_true, bind_s]
  by_cases hc : n % 18446744073709551616 + 1 = 18446744073709551616
  ·have q1 : (n + 1) / 18446744073709551616 = n / 18446744073709551616 + 1 := by omega
   have q2 : (n + 1) % 18446744073709551616 = 0 := by omega
   have q3 : (n / 18446744073709551616 + 1) % 18446744073709551616 = n / 18446744073709551616 + 1 := by omega
   rw [hc, Nat.mod_self, decide_eq_true (show ((0 : Nat) : Int) = 0 from rfl), br_true, q1, q2, q3]
   rw [decide_eq_false (show ¬ (((n / 18446744073709551616 + 1 : Nat) : Int)) = 0 by omega)]
   rfl
  ·have q1 : (n + 1) / 18446744073709551616 = n / 18446744073709551616 := by omega
   have q2 : (n + 1) % 18446744073709551616 = n % 18446744073709551616 + 1 := by omega
   have q3 : (n % 18446744073709551616 + 1) % 18446744073709551616 = n % 18446744073709551616 + 1 := by omega
   rw [q3, decide_eq_false (show ¬ (((n % 18446744073709551616 + 1 : Nat) : Int)) = 0 by omega), br_false, q1, q2]
end Go.Ma
namespace Go.Ma
open Go
end Go.Ma
namespace Go.Ma
open Go
end Go.Ma
namespace Go.Ma
open Go
end Go.Ma
namespace Go.Ma
open Go
end Go.Ma
namespace Go.Ma
open Go
structure Good (p : Pf) (m : List Ls) : Prop where
 ins : lsIn m
 chk : ∀ x ∈ m, chkLs x = 0
 held : ∀ x ∈ m, holds p x.ad = true
 asc : m.Pairwise fun x y => rank x.ad < rank y.ad
 whos : m.Pairwise fun x y => x.who ≠ y.who
structure Given (p : Pf) (kp : List Ad) (l : List Ls) (who : ByteArray) (now u : Int) (m : List Ls) (a : Ad) : Prop where
 good : Good p m
 alive : ∀ x ∈ m, now ≤ x.upto
 mine : (⟨a, who, u⟩ : Ls) ∈ m
 others : ∀ x ∈ l, now ≤ x.upto → x.who ≠ who → x ∈ m
 fresh : (∀ x ∈ l, now ≤ x.upto → x.who ≠ who) → ∀ x ∈ kp, x ≠ a
end Go.Ma
namespace Go.Ma
open Go
end Go.Ma
namespace Go.Ma
open Go
end Go.Ma
namespace Go.Ma
open Go
end Go.Ma
namespace Go.Ma
open Go
section
variable {α A R : Type}
theorem idx_loop {step : (A → Option R) → A → Option R} (b : List α) (q : α → Bool) (mk : Nat → A) (out : Option Nat → R) (hlen : b.length < 9223372036854775808)
  (h : ∀ (rec : A → Option R) (i : Nat) (x : α), b[i]? = some x → i < b.length → step rec (mk i) = if q x then some (out (some i)) else rec (mk (i + 1)))
  (hend : ∀ rec : A → Option R, step rec (mk b.length) = some (out none)) : loopN step FUEL (mk 0) = some (out (firstF q b)) := by
 have := loop_up (step := step) mk b.length (fun i => some (out ((firstF q (b.drop i)).map (· + i)))) (fun rec i hi hr => ?_) (fun rec => ?_) FUEL 0 (Nat.zero_le _) (fuel_gt (by omega))
 ·rw [List.drop_zero, show (fun x => x + 0) = (id : Nat → Nat) from rfl, Option.map_id] at this
  exact this
 ·obtain ⟨e, he⟩ : ∃ e, b[i]? = some e := ⟨_, List.getElem?_eq_getElem hi⟩
  rw [h rec i e he hi, firstF_at he]
  cases q e
  ·rw [if_neg (by simp), if_neg (by simp), hr]
  ·rw [if_pos rfl, if_pos rfl]
 ·rw [hend, List.drop_of_length_le (Nat.le_refl _)]
  rfl
end
def pfIn (l : List Pf) : Prop := ∀ p ∈ l, p.In ∧ chkP p = 0
def meets (p q : Pf) : Bool := over p q || over q p
end Go.Ma
namespace Go.Ma
open Go
def kV (v : Bool) : Int := if v then 1 else 0
theorem ordA_key (a b : Ad) : (ordA a b < 0 ↔ kV a.v6 < kV b.v6 ∨ (kV a.v6 = kV b.v6 ∧ (a.hi < b.hi ∨ (a.hi = b.hi ∧ a.lo < b.lo)))) ∧ (ordA a b = 0 ↔ kV a.v6 = kV b.v6 ∧ a.hi = b.hi ∧ a.lo = b.lo) := by
 unfold ordA ordI kV
 cases a.v6 <;> cases b.v6 <;> simp <;> (by_cases h1 : a.hi = b.hi <;> simp [h1] <;> constructor <;> (repeat' split) <;> omega)
theorem kV_inj {v w : Bool} (h : kV v = kV w) : v = w := by cases v <;> cases w <;> first | rfl | (exact absurd h (by decide))
end Go.Ma
namespace Go.Ma
open Go
def apartP (p q : Pf) : Prop := ordP p q < 0 ∧ meets p q = false
def kpIn (ks : List (List Ad)) : Prop := ∀ k ∈ ks, adIn k
end Go.Ma
namespace Go.Ma
open Go
def toB (p : Pf) : Bk := ⟨p.ad.v6, free p, p.ad.num / 2 ^ free p⟩
def rtP (p : Pf) : Prop := p.In ∧ chkP p = 0
theorem toB_lo {p : Pf} (h : rtP p) : (toB p).lo = p.ad.num := by
 obtain ⟨_, h2, _⟩ := free_facts h.1 h.2
 have := Nat.div_add_mod p.ad.num (2 ^ free p)
 rw [h2, Nat.add_zero, Nat.mul_comm] at this
 exact this
theorem toB_hi {p : Pf} (h : rtP p) : (toB p).hi = p.ad.num + 2 ^ free p := by
 have h1 := toB_lo h
 unfold Bk.lo at h1
 unfold Bk.hi
 rw [Nat.add_mul, h1, Nat.one_mul]
 rfl
theorem holds_toB {p : Pf} (h : rtP p) {a : Ad} (ha : a.In) : holds p a = true ↔ (toB p).has a.v6 a.num := by
 rw [holds_span h.1 h.2 ha]
 unfold Bk.has
 rw [toB_lo h, toB_hi h]
 rfl
theorem free_bits {p : Pf} (h : chkP p = 0) : (free p : Int) = (wid p.ad.v6 : Nat) - p.bits := by
 obtain ⟨h1, h2⟩ := chkP_bits h
 unfold free
 omega
theorem toB_inj {p q : Pf} (hp : rtP p) (hq : rtP q) (h : toB p = toB q) : p = q := by
 have hv : p.ad.v6 = q.ad.v6 := congrArg Bk.v h
 have hf : free p = free q := congrArg Bk.f h
 have hn : p.ad.num = q.ad.num := by rw [← toB_lo hp, ← toB_lo hq, h]
 have ha : p.ad = q.ad := num_inj hp.1.1.wf hq.1.1.wf hv hn
 have h1 := free_bits hp.2
 have h2 := free_bits hq.2
 have hb : p.bits = q.bits := by rw [hf, h2, hv] at h1; omega
 obtain ⟨pa, pb⟩ := p
 obtain ⟨qa, qb⟩ := q
 simp only at ha hb
 rw [ha, hb]
theorem toB_over {p q : Pf} (hp : rtP p) (hq : rtP q) : over p q = overBk (toB p) (toB q) := by
 rw [Bool.eq_iff_iff, over_iff, holds_toB hp hq.1.1, overBk_iff]
 have h1 := free_bits hp.2
 have h2 := free_bits hq.2
 have hlo := toB_lo hq
 constructor
 ·rintro ⟨g1, g2, g3, g4⟩
  have hv : (toB p).v = (toB q).v := g2
  have hw : p.ad.v6 = q.ad.v6 := g2
  have hf : (toB q).f ≤ (toB p).f := by
   show free q ≤ free p
   rw [hw] at h1
   omega
  have := over_of_meet hv hf (n := q.ad.num) g3 g4 (by rw [hlo]; exact Nat.le_refl _) (by have := (toB q).lo_lt_hi; omega)
  exact overBk_iff.1 this
 ·rintro ⟨g1, g2, g3⟩
  have hw : p.ad.v6 = q.ad.v6 := g1
  have hf : free q ≤ free p := g2
  obtain ⟨_, r1, r2⟩ := overBk_range (overBk_iff.2 ⟨g1, g2, g3⟩)
  refine ⟨by rw [hw] at h1; omega, g1, by rw [hlo] at r1; exact r1, ?_⟩
  have := (toB q).lo_lt_hi
  omega
theorem toB_ord {p q : Pf} (hp : rtP p) (hq : rtP q) : ordP p q < 0 ↔ ordB (toB p) (toB q) := by
 have h1 := free_bits hp.2
 have h2 := free_bits hq.2
 obtain ⟨o1, o2⟩ := ord_rank hp.1.1 hq.1.1
 have n1 := num_lt hp.1.1
 have n2 := num_lt hq.1.1
 unfold ordB
 rw [toB_lo hp, toB_lo hq]
 show _ ↔ (p.ad.v6 = false ∧ q.ad.v6 = true) ∨ (p.ad.v6 = q.ad.v6 ∧ (p.ad.num < q.ad.num ∨ (p.ad.num = q.ad.num ∧ free q < free p)))
 unfold ordP
 by_cases h0 : ordA p.ad q.ad = 0
 ·rw [if_neg (fun hh => hh h0)]
  have hr := o2.1 h0
  unfold rank at hr
  cases hv : p.ad.v6 <;> cases hw : q.ad.v6 <;> rw [hv, hw] at hr <;> simp only [Bool.false_eq_true, if_false, if_true] at hr
  ·rw [hv] at h1; rw [hw] at h2
   constructor
   ·intro hb; exact .inr ⟨rfl, .inr ⟨by omega, by omega⟩⟩
   ·rintro (⟨_, hh⟩ | ⟨_, hh⟩)
    ·cases hh
    ·omega
  ·omega
  ·omega
  ·rw [hv] at h1; rw [hw] at h2
   constructor
   ·intro hb; exact .inr ⟨rfl, .inr ⟨by omega, by omega⟩⟩
   ·rintro (⟨hh, _⟩ | ⟨_, hh⟩)
    ·cases hh
    ·omega
 ·rw [if_pos h0, o1]
  have hr : rank p.ad ≠ rank q.ad := fun hh => h0 (o2.2 hh)
  unfold rank at hr ⊢
  cases hv : p.ad.v6 <;> cases hw : q.ad.v6 <;> rw [hv, hw] at hr <;> simp only [Bool.false_eq_true, if_false, if_true] at hr ⊢
  ·constructor
   ·intro hb; exact .inr ⟨trivial, .inl (by omega)⟩
   ·rintro (⟨_, hh⟩ | ⟨_, hh⟩)
    ·cases hh
    ·omega
  ·exact ⟨fun _ => by simp, fun _ => by omega⟩
  ·constructor
   ·intro hb; omega
   ·rintro (⟨hh, _⟩ | ⟨hh, _⟩)
    ·cases hh
    ·exact absurd hh (by simp)
  ·constructor
   ·intro hb; exact .inr ⟨trivial, .inl (by omega)⟩
   ·rintro (⟨hh, _⟩ | ⟨_, hh⟩)
    ·cases hh
    ·omega
end Go.Ma
namespace Go.Ma
open Go
def ofB (b : Bk) : Pf := ⟨ofNum b.v (b.k * 2 ^ b.f), ((wid b.v - b.f : Nat) : Int)⟩
def fitB (b : Bk) : Prop := b.f ≤ wid b.v ∧ b.hi ≤ 2 ^ wid b.v
theorem wid_top (v : Bool) : wid v ≤ 128 := by cases v <;> decide
theorem ofB_ok {b : Bk} (h : fitB b) : rtP (ofB b) ∧ toB (ofB b) = b := by
 obtain ⟨h1, h2⟩ := h
 have hw := wid_top b.v
 have hlt : b.k * 2 ^ b.f < 2 ^ wid b.v := Nat.lt_of_lt_of_le b.lo_lt_hi h2
 have hin : (ofNum b.v (b.k * 2 ^ b.f)).In := ofNum_inC hlt
 have hfr : free (ofB b) = b.f := by
  unfold free ofB
  show wid b.v - ((wid b.v - b.f : Nat) : Int).toNat = _
  rw [Int.toNat_natCast]; omega
 have hc : chkP (ofB b) = 0 := by
  unfold chkP
  have e1 : chkA (ofB b).ad = 0 := ofNum_chkC hlt
  have e2 : ¬ ((ofB b).bits < 0 ∨ (ofB b).bits > (wid (ofB b).ad.v6 : Nat)) := by
   show ¬ (((wid b.v - b.f : Nat) : Int) < 0 ∨ ((wid b.v - b.f : Nat) : Int) > (wid b.v : Nat))
   omega
  have e3 : cutA (ofB b).ad (ofB b).bits = (ofB b).ad := by
   have hw2 : (ofB b).ad.wf := hin.wf
   rw [cutA_iff hw2]
   refine (cutN_iff _ _).2 ?_
   show (ofNum b.v (b.k * 2 ^ b.f)).num % 2 ^ (free (ofB b)) = 0
   rw [hfr, num_ofNum, Nat.mul_mod_left]
  rw [if_neg (fun hh => hh e1), if_neg e2, if_neg (fun hh => hh e3)]
 refine ⟨⟨⟨hin, ?_⟩, hc⟩, ?_⟩
 ·show i64In ((wid b.v - b.f : Nat) : Int)
  constructor <;> omega
 ·unfold toB
  rw [hfr]
  have e : (ofB b).ad.num / 2 ^ b.f = b.k := by
   show (ofNum b.v (b.k * 2 ^ b.f)).num / 2 ^ b.f = b.k
   rw [num_ofNum, Nat.mul_div_cancel _ (Nat.two_pow_pos _)]
  rw [e]
  rfl
theorem toB_fit {p : Pf} (h : rtP p) : fitB (toB p) := by
 obtain ⟨f1, _, f3⟩ := free_facts h.1 h.2
 exact ⟨f1, by rw [toB_hi h]; exact f3⟩
theorem ofB_toB {p : Pf} (h : rtP p) : ofB (toB p) = p := toB_inj (ofB_ok (toB_fit h)).1 h (ofB_ok (toB_fit h)).2
def loB (b : Bk) : Bk := ⟨b.v, b.f - 1, 2 * b.k⟩
def hiB (b : Bk) : Bk := ⟨b.v, b.f - 1, 2 * b.k + 1⟩
theorem half_parts {b : Bk} (hf : 0 < b.f) : (loB b).lo = b.lo ∧ (loB b).hi = (hiB b).lo ∧ (hiB b).hi = b.hi := by
 obtain ⟨f, hfe⟩ : ∃ f, b.f = f + 1 := ⟨b.f - 1, by omega⟩
 unfold loB hiB Bk.lo Bk.hi
 simp only [hfe, Nat.add_sub_cancel]
 exact ⟨(dblA b.k f).symm, trivial, (dblB b.k f).symm⟩
theorem loB_fit {b : Bk} (h : fitB b) (hf : 0 < b.f) : fitB (loB b) := by
 obtain ⟨h1, h2⟩ := h
 obtain ⟨q1, q2, q3⟩ := half_parts hf
 have := (hiB b).lo_lt_hi
 exact ⟨by show b.f - 1 ≤ wid b.v; omega, by show (loB b).hi ≤ 2 ^ wid b.v; omega⟩
theorem hiB_fit {b : Bk} (h : fitB b) (hf : 0 < b.f) : fitB (hiB b) := by
 obtain ⟨h1, h2⟩ := h
 obtain ⟨q1, q2, q3⟩ := half_parts hf
 exact ⟨by show b.f - 1 ≤ wid b.v; omega, by show (hiB b).hi ≤ 2 ^ wid b.v; omega⟩
theorem split_eq {b : Bk} (h : fitB b) (hf : 0 < b.f) : splitF (ofB b) = some (ofB (loB b), ofB (hiB b), ()) := by
 have hl := loB_fit h hf
 obtain ⟨q1, q2, q3⟩ := half_parts hf
 have hw := wid_top b.v
 have e1 : (⟨(ofB b).ad, (ofB b).bits + 1⟩ : Pf) = ofB (loB b) := by
  unfold ofB
  have g1 : (loB b).k * 2 ^ (loB b).f = b.k * 2 ^ b.f := q1
  have g2 : ((wid b.v - b.f : Nat) : Int) + 1 = ((wid b.v - (b.f - 1) : Nat) : Int) := by have := h.1; omega
  simp only [g1, g2]
  rfl
 obtain ⟨r1, r2⟩ := ofB_ok hl
 have hlast := last_eq r1.1 r1.2
 obtain ⟨l1, l2⟩ := last_num r1.1 r1.2
 have hwf := (last_in r1.1 r1.2).1.wf
 have hnum : (lastA (ofB (loB b))).num + 1 = (hiB b).lo := by
  have g1 := toB_hi r1
  have g2 := toB_lo r1
  have hp := Nat.two_pow_pos (free (ofB (loB b)))
  rw [r2] at g1 g2
  rw [← q2, l1]
  omega
 have hv : (lastA (ofB (loB b))).v6 = b.v := l2
 have hlt : (lastA (ofB (loB b))).num + 1 < 2 ^ wid b.v := by
  have := (hiB b).lo_lt_hi
  have := h.2
  omega
 have e2 : addr_After_t (lastA (ofB (loB b))) = some (ofNum b.v (hiB b).lo, true, ()) := by
  have := addr_After_eq hlt
  rw [hnum, ← hv, ofNum_num _ hwf] at this
  rw [this, hv]
 unfold splitF
 rw [e1, hlast, bind_s, e2, bind_s, req_of (i64ok_of (by show -9223372036854775808 ≤ ((wid b.v - b.f : Nat) : Int) + 1; omega) (by show ((wid b.v - b.f : Nat) : Int) + 1 < 9223372036854775808; omega))]
 have e3 : (⟨ofNum b.v (hiB b).lo, (ofB b).bits + 1⟩ : Pf) = ofB (hiB b) := by
  unfold ofB
  have g2 : ((wid b.v - b.f : Nat) : Int) + 1 = ((wid b.v - (b.f - 1) : Nat) : Int) := by have := h.1; omega
  simp only [g2]
  rfl
 rw [e3]
theorem upB_fit {b : Bk} (h : fitB b) (hf : b.f < wid b.v) : fitB (upB b) := by
 obtain ⟨h1, h2⟩ := h
 refine ⟨by show b.f + 1 ≤ wid b.v; omega, ?_⟩
 obtain ⟨d, hd⟩ : ∃ d, wid b.v = b.f + 1 + d := ⟨wid b.v - (b.f + 1), by omega⟩
 unfold Bk.hi at h2
 unfold upB Bk.hi
 simp only
 have e1 : 2 ^ (b.f + 1 + d) = 2 ^ d * 2 ^ (b.f + 1) := by rw [Nat.pow_add, Nat.mul_comm]
 have e2 : 2 ^ d * 2 ^ (b.f + 1) = 2 ^ d * 2 * 2 ^ b.f := by rw [Nat.pow_succ, Nat.mul_comm (2 ^ b.f) 2, Nat.mul_assoc]
 rw [hd, e1] at h2 ⊢
 rw [e2] at h2
 have h3 : b.k + 1 ≤ 2 ^ d * 2 := Nat.le_of_mul_le_mul_right h2 (Nat.two_pow_pos b.f)
 exact Nat.mul_le_mul_right _ (by omega)
theorem join_eq {a b : Pf} (ha : rtP a) (hb : rtP b) : ∃ w, joinF a b = some (w, decide (sib (toB a) (toB b)), ()) ∧ (sib (toB a) (toB b) → w = ofB (upB (toB a)) ∧ fitB (upB (toB a))) := by
 have fa := free_bits ha.2
 have fb := free_bits hb.2
 obtain ⟨a0, a1⟩ := chkP_bits ha.2
 have hfa := toB_fit ha
 have hfb := toB_fit hb
 have hwa := wid_top a.ad.v6
 unfold joinF
 by_cases h0 : a.bits = 0
 ·have hs : ¬ sib (toB a) (toB b) := by
   rintro ⟨s1, s2, s3, s4⟩
   have e1 : free a = wid a.ad.v6 := by omega
   have h2 := hfb.2
   have hl : (toB b).lo = ((toB a).k + 1) * 2 ^ (wid a.ad.v6) := by
    unfold Bk.lo
    rw [s4, ← s2]
    show ((toB a).k + 1) * 2 ^ free a = _
    rw [e1]
   have hl2 := (toB b).lo_lt_hi
   rw [← s1] at h2
   have e2 : (toB a).v = a.ad.v6 := rfl
   rw [e2] at h2
   have : 1 * 2 ^ (wid a.ad.v6) ≤ ((toB a).k + 1) * 2 ^ (wid a.ad.v6) := Nat.mul_le_mul_right _ (by omega)
   omega
  refine ⟨⟨⟨false, 0, 0⟩, 0⟩, ?_, fun hh => absurd hh hs⟩
  rw [decide_eq_true h0, cond_true, br_true, decide_eq_false hs]
 rw [decide_eq_false h0, cond_false]
 by_cases h1 : a.bits = b.bits
 rotate_left
 ·have hs : ¬ sib (toB a) (toB b) := by
   rintro ⟨s1, s2, _, _⟩
   have s1 : a.ad.v6 = b.ad.v6 := s1
   have s2 : free a = free b := s2
   rw [s1] at fa
   omega
  refine ⟨⟨⟨false, 0, 0⟩, 0⟩, ?_, fun hh => absurd hh hs⟩
  rw [decide_eq_false h1, Bool.not_false, cond_true, br_true, decide_eq_false hs]
 rw [decide_eq_true h1, Bool.not_true, cond_false]
 by_cases hv : a.ad.v6 = b.ad.v6
 rotate_left
 ·have hs : ¬ sib (toB a) (toB b) := fun hh => hv hh.1
  refine ⟨⟨⟨false, 0, 0⟩, 0⟩, ?_, fun hh => absurd hh hs⟩
  have e : beqB a.ad.v6 b.ad.v6 = false := by
   cases hx : a.ad.v6 <;> cases hy : b.ad.v6 <;> first | rfl | (rw [hx, hy] at hv; exact absurd rfl hv)
  rw [e, Bool.not_false, br_true, decide_eq_false hs]
 rw [show beqB a.ad.v6 b.ad.v6 = true by rw [hv]; cases b.ad.v6 <;> rfl, Bool.not_true, br_false]
 have hflt : (toB a).f < wid (toB a).v := by show free a < wid a.ad.v6; omega
 have hup := upB_fit hfa hflt
 have hw : (⟨cutA a.ad (a.bits - 1), a.bits - 1⟩ : Pf) = ofB (upB (toB a)) := by
  have e1 : wid a.ad.v6 - (a.bits - 1).toNat = free a + 1 := by omega
  have e2 : a.bits - 1 = ((wid a.ad.v6 - (free a + 1) : Nat) : Int) := by omega
  have e3 : cutN a.ad.num (free a + 1) = (toB a).k / 2 * 2 ^ (free a + 1) := by
   unfold cutN toB
   simp only
   rw [Nat.div_div_eq_div_mul, ← Nat.pow_succ]
  unfold ofB cutA upB
  rw [e1, e3, e2]
  rfl
 have hcut := prefix_Cut_eq a.ad ha.1.1.wf (a.bits - 1) (by omega) (by omega)
 have hsp := split_eq hup (show 0 < (upB (toB a)).f from Nat.succ_pos _)
 rw [← hw] at hsp
 rw [req_of (i64ok_of (by omega) (by omega)), hcut, bind_s, hsp, bind_s]
 simp only [eqPf_eq]
 have hlo : loB (upB (toB a)) = ⟨(toB a).v, (toB a).f, 2 * ((toB a).k / 2)⟩ := rfl
 have hhi : hiB (upB (toB a)) = ⟨(toB a).v, (toB a).f, 2 * ((toB a).k / 2) + 1⟩ := rfl
 have fl := loB_fit hup (show 0 < (upB (toB a)).f from Nat.succ_pos _)
 have fh := hiB_fit hup (show 0 < (upB (toB a)).f from Nat.succ_pos _)
 have q1 : (ofB (loB (upB (toB a))) = a) ↔ (toB a).k % 2 = 0 := by
  constructor
  ·intro hh
   have e := (ofB_ok fl).2
   rw [hh, hlo] at e
   have := congrArg Bk.k e
   simp only at this
   omega
  ·intro hh
   refine toB_inj (ofB_ok fl).1 ha ?_
   rw [(ofB_ok fl).2, hlo, show 2 * ((toB a).k / 2) = (toB a).k by omega]
 have hvf : (toB b).v = (toB a).v ∧ (toB b).f = (toB a).f := ⟨hv.symm, by show free b = free a; rw [hv] at fa; omega⟩
 have q2 : (ofB (hiB (upB (toB a))) = b) ↔ (toB b).k = 2 * ((toB a).k / 2) + 1 := by
  constructor
  ·intro hh
   have e := (ofB_ok fh).2
   rw [hh, hhi] at e
   exact congrArg Bk.k e
  ·intro hh
   refine toB_inj (ofB_ok fh).1 hb ?_
   rw [(ofB_ok fh).2, hhi, ← hh, ← hvf.1, ← hvf.2]
 have hs : sib (toB a) (toB b) ↔ ofB (loB (upB (toB a))) = a ∧ ofB (hiB (upB (toB a))) = b := by
  rw [q1, q2]
  unfold sib
  rw [hvf.1, hvf.2]
  constructor
  ·rintro ⟨_, _, g1, g2⟩; exact ⟨g1, by omega⟩
  ·rintro ⟨g1, g2⟩; exact ⟨rfl, rfl, g1, by omega⟩
 refine ⟨_, ?_, fun _ => ⟨hw, hup⟩⟩
 by_cases g1 : ofB (loB (upB (toB a))) = a
 ·rw [decide_eq_true g1, br_true]
  have : decide (sib (toB a) (toB b)) = decide (ofB (hiB (upB (toB a))) = b) := decide_eq_decide.2 (by rw [hs]; exact ⟨fun h => h.2, fun h => ⟨g1, h⟩⟩)
  rw [this]
 ·have hns : ¬ sib (toB a) (toB b) := fun hh => g1 (hs.1 hh).1
  rw [decide_eq_false g1, br_false, decide_eq_false hns]
end Go.Ma
namespace Go.Ma
open Go
theorem Bk.has_lo (b : Bk) : b.has b.v b.lo := ⟨rfl, Nat.le_refl _, b.lo_lt_hi⟩
def meetBk (a b : Bk) : Bool := overBk a b || overBk b a
theorem over_has {a b : Bk} (h : overBk a b = true) {v : Bool} {n : Nat} (hn : b.has v n) : a.has v n := by
 obtain ⟨h1, h2, h3⟩ := overBk_range h
 obtain ⟨g1, g2, g3⟩ := hn
 exact ⟨h1.trans g1, by omega, by omega⟩
theorem meetBk_iff {a b : Bk} : meetBk a b = true ↔ ∃ v n, a.has v n ∧ b.has v n := by
 unfold meetBk
 rw [Bool.or_eq_true]
 constructor
 ·rintro (h | h)
  ·exact ⟨_, _, over_has h b.has_lo, b.has_lo⟩
  ·exact ⟨_, _, a.has_lo, over_has h a.has_lo⟩
 ·rintro ⟨v, n, ⟨a1, a2, a3⟩, b1, b2, b3⟩
  by_cases hf : b.f ≤ a.f
  ·exact .inl (over_of_meet (a1.trans b1.symm) hf a2 a3 b2 b3)
  ·exact .inr (over_of_meet (b1.trans a1.symm) (by omega) b2 b3 a2 a3)
def diffB (some others : List Bk) (v : Bool) (n : Nat) : Prop := covB some v n ∧ ¬ covB others v n
theorem canon_f {v : Bool} {S : Nat → Prop} : ∀ {F K : Nat} {b : Bk}, b ∈ canon v S F K → b.f ≤ F
 | 0, K, b, h => by
  unfold canon at h
  split at h
  ·simp only [List.mem_singleton] at h; rw [h]; exact Nat.le_refl _
  ·cases h
 | F + 1, K, b, h => by
  unfold canon at h
  split at h
  ·simp only [List.mem_singleton] at h; rw [h]; exact Nat.le_refl _
  ·rcases List.mem_append.1 h with h | h
   ·have := canon_f h; omega
   ·have := canon_f h; omega
section
variable {v : Bool} {some others : List Bk}
end
end Go.Ma
namespace Go.Ma
open Go
noncomputable def normC (S : Bool → Nat → Prop) : List Bk := canon false (S false) 32 0 ++ canon true (S true) 128 0
theorem in_whole {b : Bk} (h : fitB b) : inB b.v (wid b.v) 0 b := by
 obtain ⟨h1, h2⟩ := h
 refine ⟨rfl, h1, ?_⟩
 obtain ⟨d, hd⟩ : ∃ d, wid b.v = b.f + d := ⟨wid b.v - b.f, by omega⟩
 rw [hd, show b.f + d - b.f = d by omega]
 unfold Bk.hi at h2
 rw [hd, Nat.pow_add, Nat.mul_comm (2 ^ b.f)] at h2
 have := Nat.le_of_mul_le_mul_right h2 (Nat.two_pow_pos b.f)
 exact Nat.div_eq_of_lt (by omega)
theorem norm_two {l : List Bk} (h : NormB l) (hf : ∀ b ∈ l, fitB b) {S : Bool → Nat → Prop} (hS : ∀ v n, n < 2 ^ wid v → (covB l v n ↔ S v n)) : l = normC S := by
 let p : Bk → Bool := fun b => !b.v
 have hsplit : l = l.filter p ++ l.filter (fun x => !p x) := filter_split p (by
  refine h.asc.imp ?_
  intro a b hab hpb
  rcases hab with ⟨p1, p2⟩ | ⟨p1, _⟩
  ·show (!a.v) = true; rw [p1]; rfl
  ·show (!a.v) = true; rw [p1]; exact hpb)
 have part : ∀ (v : Bool) (q : Bk → Bool), (∀ b, q b = true ↔ b.v = v) → l.filter q = canon v (S v) (wid v) 0 := by
  intro v q hq
  refine canon_uniq v (S v) (wid v) 0 _ (h.sub List.filter_sublist) (fun b hb => ?_) (fun n h1 h2 => ?_)
  ·obtain ⟨b1, b2⟩ := List.mem_filter.1 hb
   have := in_whole (hf b b1)
   rw [(hq b).1 b2] at this
   exact this
  ·rw [← hS v n (by simpa using h2)]
   constructor
   ·rintro ⟨b, hb, hh⟩; exact ⟨b, (List.mem_filter.1 hb).1, hh⟩
   ·rintro ⟨b, hb, hh⟩; exact ⟨b, List.mem_filter.2 ⟨hb, (hq b).2 hh.1⟩, hh⟩
 have e1 := part false p (fun b => by show (!b.v) = true ↔ _; cases b.v <;> simp)
 have e2 := part true (fun x => !p x) (fun b => by show (!(!b.v)) = true ↔ _; cases b.v <;> simp)
 rw [hsplit, e1, e2]
 rfl
theorem joinS_fit : ∀ {rs : List Bk} {p : Bk}, (∀ b ∈ rs, fitB b) → fitB p → ∀ b ∈ joinS rs p, fitB b
 | [], p, _, hp, b, hb => by
  unfold joinS at hb
  simp only [List.mem_singleton] at hb
  rw [hb]; exact hp
 | t :: r, p, hr, hp, b, hb => by
  unfold joinS at hb
  split at hb
  ·rename_i hs
   refine joinS_fit (fun x hx => hr x (List.mem_cons_of_mem _ hx)) ?_ b hb
   obtain ⟨q1, q2, q3⟩ := sib_parts hs
   have hv : p.v = t.v := hs.1.symm
   have h2 := hp.2
   rw [hv, ← q3] at h2
   refine ⟨?_, h2⟩
   show t.f + 1 ≤ wid t.v
   have h3 : 2 ^ (t.f + 1) ≤ 2 ^ wid t.v := by
    have h4 : (upB t).hi = (t.k / 2 + 1) * 2 ^ (t.f + 1) := rfl
    have h5 : 1 * 2 ^ (t.f + 1) ≤ (t.k / 2 + 1) * 2 ^ (t.f + 1) := Nat.mul_le_mul_right _ (by omega)
    have h6 : (upB t).hi ≤ 2 ^ wid t.v := h2
    omega
   exact (Nat.pow_le_pow_iff_right (by omega)).1 h3
  ·rcases List.mem_cons.1 hb with rfl | hb
   ·exact hp
   ·exact hr b hb
theorem putS_fit {rs : List Bk} {p : Bk} (hr : ∀ b ∈ rs, fitB b) (hp : fitB p) : ∀ b ∈ putS rs p, fitB b := by
 intro b hb
 unfold putS at hb
 split at hb
 ·simp only [List.mem_singleton] at hb; rw [hb]; exact hp
 ·split at hb
  ·exact hr b hb
  ·exact joinS_fit hr hp b hb
theorem shortS_fit {l : List Bk} (hl : ∀ b ∈ l, fitB b) : ∀ b ∈ shortS l, fitB b := by
 have key : ∀ (l rs : List Bk), (∀ b ∈ l, fitB b) → (∀ b ∈ rs, fitB b) → ∀ b ∈ l.foldl putS rs, fitB b := by
  intro l
  induction l with
  | nil => intro rs _ h; exact h
  | cons p r ih => intro rs h1 h2; exact ih _ (fun b hb => h1 b (List.mem_cons_of_mem _ hb)) (putS_fit h2 (h1 p List.mem_cons_self))
 intro b hb
 unfold shortS at hb
 exact key l [] hl (fun b hb => by cases hb) b (List.mem_reverse.1 hb)
theorem short_norm {l : List Bk} (hs : l.Pairwise fun a b => ¬ ordB b a) (hl : ∀ b ∈ l, fitB b) : shortS l = normC (covB l) := by
 obtain ⟨h1, h2⟩ := short_ok hs
 exact norm_two h1 (shortS_fit hl) fun v n _ => h2 v n
def restB (p : Bk) (v : Bool) : Nat → Nat → List Bk
 | 0, K => if overBk p ⟨v, 0, K⟩ = true then [] else [⟨v, 0, K⟩]
 | F + 1, K => if overBk p ⟨v, F + 1, K⟩ = true then [] else if overBk ⟨v, F + 1, K⟩ p = false then [⟨v, F + 1, K⟩] else restB p v F (2 * K) ++ restB p v F (2 * K + 1)
theorem covB_app {l m : List Bk} {v : Bool} {n : Nat} : covB (l ++ m) v n ↔ covB l v n ∨ covB m v n := by
 unfold covB
 constructor
 ·rintro ⟨b, hb, hh⟩
  rcases List.mem_append.1 hb with hb | hb
  ·exact .inl ⟨b, hb, hh⟩
  ·exact .inr ⟨b, hb, hh⟩
 ·rintro (⟨b, hb, hh⟩ | ⟨b, hb, hh⟩)
  ·exact ⟨b, List.mem_append_left _ hb, hh⟩
  ·exact ⟨b, List.mem_append_right _ hb, hh⟩
theorem covB_one {b : Bk} {v : Bool} {n : Nat} : covB [b] v n ↔ b.has v n := by simp [covB]
theorem no_meet {p b : Bk} (h1 : overBk p b = false) (h2 : overBk b p = false) {v : Bool} {n : Nat} (hb : b.has v n) : ¬ p.has v n := fun hp => by
 have : meetBk p b = true := meetBk_iff.2 ⟨v, n, hp, hb⟩
 unfold meetBk at this
 rw [h1, h2] at this
 cases this
theorem restB_cov (p : Bk) (v : Bool) : ∀ (F K : Nat) (w : Bool) (n : Nat), covB (restB p v F K) w n ↔ (Bk.has ⟨v, F, K⟩ w n ∧ ¬ p.has w n)
 | 0, K, w, n => by
  unfold restB
  by_cases h1 : overBk p ⟨v, 0, K⟩ = true
  ·rw [if_pos h1]
   refine ⟨fun hh => ?_, fun hh => absurd (over_has h1 hh.1) hh.2⟩
   obtain ⟨b, hb, _⟩ := hh
   cases hb
  ·rw [if_neg h1, covB_one]
   refine ⟨fun hh => ⟨hh, fun hp => h1 ?_⟩, fun hh => hh.1⟩
   obtain ⟨a1, a2, a3⟩ := hp
   obtain ⟨b1, b2, b3⟩ := hh
   exact over_of_meet (a1.trans b1.symm) (Nat.zero_le _) a2 a3 b2 b3
 | F + 1, K, w, n => by
  unfold restB
  by_cases h1 : overBk p ⟨v, F + 1, K⟩ = true
  ·rw [if_pos h1]
   refine ⟨fun hh => ?_, fun hh => absurd (over_has h1 hh.1) hh.2⟩
   obtain ⟨b, hb, _⟩ := hh
   cases hb
  rw [if_neg h1]
  by_cases h2 : overBk ⟨v, F + 1, K⟩ p = false
  ·rw [if_pos h2, covB_one]
   exact ⟨fun hh => ⟨hh, no_meet (by simpa using h1) h2 hh⟩, fun hh => hh.1⟩
  rw [if_neg h2, covB_app, restB_cov p v F (2 * K) w n, restB_cov p v F (2 * K + 1) w n]
  have e1 := dblA K F
  have e2 := dblB K F
  have e3 := dblC K F
  have e4 := dblD K F
  have hh : Bk.has ⟨v, F + 1, K⟩ w n ↔ (Bk.has ⟨v, F, 2 * K⟩ w n ∨ Bk.has ⟨v, F, 2 * K + 1⟩ w n) := by
   unfold Bk.has Bk.lo Bk.hi
   simp only
   rw [e1, e2]
   constructor
   ·rintro ⟨g1, g2, g3⟩
    by_cases hn : n < (2 * K + 1) * 2 ^ F
    ·exact .inl ⟨g1, g2, hn⟩
    ·exact .inr ⟨g1, by omega, g3⟩
   ·rintro (⟨g1, g2, g3⟩ | ⟨g1, g2, g3⟩)
    ·exact ⟨g1, g2, by omega⟩
    ·exact ⟨g1, by omega, g3⟩
  rw [hh]
  constructor
  ·rintro (⟨g1, g2⟩ | ⟨g1, g2⟩)
   ·exact ⟨.inl g1, g2⟩
   ·exact ⟨.inr g1, g2⟩
  ·rintro ⟨g1 | g1, g2⟩
   ·exact .inl ⟨g1, g2⟩
   ·exact .inr ⟨g1, g2⟩
theorem restB_fit (p : Bk) (v : Bool) : ∀ (F K : Nat), fitB ⟨v, F, K⟩ → ∀ b ∈ restB p v F K, fitB b
 | 0, K, h, b, hb => by
  unfold restB at hb
  split at hb
  ·cases hb
  ·simp only [List.mem_singleton] at hb; rw [hb]; exact h
 | F + 1, K, h, b, hb => by
  unfold restB at hb
  split at hb
  ·cases hb
  split at hb
  ·simp only [List.mem_singleton] at hb; rw [hb]; exact h
  rcases List.mem_append.1 hb with hb | hb
  ·exact restB_fit p v F (2 * K) (loB_fit h (Nat.succ_pos _)) b hb
  ·exact restB_fit p v F (2 * K + 1) (hiB_fit h (Nat.succ_pos _)) b hb
def lessB (p : Bk) (l : List Bk) : List Bk := l.flatMap fun b => restB p b.v b.f b.k
theorem lessB_cov (p : Bk) (l : List Bk) (v : Bool) (n : Nat) : covB (lessB p l) v n ↔ (covB l v n ∧ ¬ p.has v n) := by
 unfold lessB
 constructor
 ·rintro ⟨b, hb, hh⟩
  obtain ⟨c, hc, hb⟩ := List.mem_flatMap.1 hb
  have := (restB_cov p c.v c.f c.k v n).1 ⟨b, hb, hh⟩
  exact ⟨⟨c, hc, this.1⟩, this.2⟩
 ·rintro ⟨⟨c, hc, hh⟩, hp⟩
  obtain ⟨b, hb, hb2⟩ := (restB_cov p c.v c.f c.k v n).2 ⟨hh, hp⟩
  exact ⟨b, List.mem_flatMap.2 ⟨c, hc, hb⟩, hb2⟩
theorem lessB_fit (p : Bk) {l : List Bk} (hl : ∀ b ∈ l, fitB b) : ∀ b ∈ lessB p l, fitB b := by
 intro b hb
 obtain ⟨c, hc, hb⟩ := List.mem_flatMap.1 hb
 exact restB_fit p c.v c.f c.k (hl c hc) b hb
end Go.Ma
namespace Go.Ma
open Go
def firstB (used : List Bk) (v : Bool) (t : Nat) : Nat → Nat → Option Bk
 | 0, K => if used.any (fun o => overBk o ⟨v, 0, K⟩) then none else if used.all (fun o => !meetBk o ⟨v, 0, K⟩) then some ⟨v, t, K * 2 ^ (0 - t)⟩ else none
 | F + 1, K =>
  if used.any (fun o => overBk o ⟨v, F + 1, K⟩) then none else if used.all (fun o => !meetBk o ⟨v, F + 1, K⟩) then some ⟨v, t, K * 2 ^ (F + 1 - t)⟩
  else if F + 1 = t then none else (firstB used v t F (2 * K)).or (firstB used v t F (2 * K + 1))
def partB (v : Bool) (t : Nat) (b : Bk) : Bk := ⟨v, t, b.k * 2 ^ (b.f - t)⟩
section
variable {used : List Bk} {v : Bool} {t : Nat}
theorem free_cut {F K : Nat} (h : used.any (fun o => overBk o ⟨v, F, K⟩) = true) : ∀ n, K * 2 ^ F ≤ n → n < (K + 1) * 2 ^ F → ¬ ¬ covB used v n := by
 intro n h1 h2 hd
 obtain ⟨o, ho, hov⟩ := List.any_eq_true.1 h
 exact hd ⟨o, ho, over_has hov (⟨rfl, h1, h2⟩ : Bk.has ⟨v, F, K⟩ v n)⟩
theorem free_all {F K : Nat} (h : used.all (fun o => !meetBk o ⟨v, F, K⟩) = true) : ∀ n, K * 2 ^ F ≤ n → n < (K + 1) * 2 ^ F → ¬ covB used v n := by
 rintro n h1 h2 ⟨o, ho, hn⟩
 have := List.all_eq_true.1 h o ho
 rw [meetBk_iff.2 ⟨v, n, hn, (⟨rfl, h1, h2⟩ : Bk.has ⟨v, F, K⟩ v n)⟩] at this
 cases this
theorem free_not {F K : Nat} (h : ¬ used.all (fun o => !meetBk o ⟨v, F, K⟩) = true) : ¬ ∀ n, K * 2 ^ F ≤ n → n < (K + 1) * 2 ^ F → ¬ covB used v n := by
 intro hall
 refine h (List.all_eq_true.2 fun o ho => ?_)
 cases hm : meetBk o ⟨v, F, K⟩
 ·rfl
 ·exfalso
  obtain ⟨w, n, hn, b1, b2, b3⟩ := meetBk_iff.1 hm
  have b1 : v = w := b1
  subst b1
  exact hall n b2 b3 ⟨o, ho, hn⟩
theorem firstB_canon : ∀ (F K : Nat), t ≤ F → firstB used v t F K = ((canon v (fun n => ¬ covB used v n) F K).find? (fun b => decide (t ≤ b.f))).map (partB v t)
 | 0, K, ht => by
  unfold firstB
  by_cases h1 : used.any (fun o => overBk o ⟨v, 0, K⟩) = true
  ·rw [if_pos h1, canon_none (free_cut h1)]; rfl
  rw [if_neg h1]
  by_cases h2 : used.all (fun o => !meetBk o ⟨v, 0, K⟩) = true
  ·rw [if_pos h2, canon_all (free_all h2)]
   simp only [List.find?, decide_eq_true ht]
   rfl
  ·exfalso
   refine h2 (List.all_eq_true.2 fun o ho => ?_)
   cases hm : meetBk o ⟨v, 0, K⟩
   ·rfl
   ·exfalso
    obtain ⟨w, n, ⟨a1, a2, a3⟩, b1, b2, b3⟩ := meetBk_iff.1 hm
    exact h1 (List.any_eq_true.2 ⟨o, ho, over_of_meet (a1.trans b1.symm) (Nat.zero_le _) a2 a3 b2 b3⟩)
 | F + 1, K, ht => by
  unfold firstB
  by_cases h1 : used.any (fun o => overBk o ⟨v, F + 1, K⟩) = true
  ·rw [if_pos h1, canon_none (free_cut h1)]; rfl
  rw [if_neg h1]
  by_cases h2 : used.all (fun o => !meetBk o ⟨v, F + 1, K⟩) = true
  ·rw [if_pos h2, canon_all (free_all h2)]
   simp only [List.find?, decide_eq_true ht]
   rfl
  rw [if_neg h2]
  have hno := free_not h2
  conv => rhs; unfold canon
  rw [if_neg hno]
  by_cases h3 : F + 1 = t
  ·rw [if_pos h3]
   have : (canon v (fun n => ¬ covB used v n) F (2 * K) ++ canon v (fun n => ¬ covB used v n) F (2 * K + 1)).find? (fun b => decide (t ≤ b.f)) = none := by
    refine List.find?_eq_none.2 fun b hb => ?_
    have hbf : b.f ≤ F := by
     rcases List.mem_append.1 hb with hb | hb
     ·exact canon_f hb
     ·exact canon_f hb
    simp only [decide_eq_true_eq]
    omega
   rw [this]
   rfl
  ·rw [if_neg h3, firstB_canon F (2 * K) (by omega), firstB_canon F (2 * K + 1) (by omega), List.find?_append]
   cases (canon v (fun n => ¬ covB used v n) F (2 * K)).find? (fun b => decide (t ≤ b.f)) <;> rfl
end
end Go.Ma
namespace Go.Ma
open Go
end Go.Ma
namespace Go.Ma
open Go
structure StOk (ps : List Pf) (ks : List (List Ad)) (ls : List Ls) (now : Int) : Prop where
 pin : pfIn ps
 kin : kpIn ks
 lin : lsIn ls
 klen : ks.length = ps.length
 plen : ps.length ≤ 3
 pool : ∀ (i : Nat) (p : Pf), ps[i]? = some p → chkPool p (ks.getD i []) = 0
 pair : ps.Pairwise apartP
 time : betw now 0 9999 = true
 all : allC ls now = 0
 has : ∀ x ∈ ls, ∃ p ∈ ps, holds p x.ad = true
 upto : ∀ x ∈ ls, now ≤ x.upto
 who : ls.Pairwise fun x y => x.who ≠ y.who
end Go.Ma
namespace Go.Ma
open Go
theorem ordA_eq0 {a b : Ad} : ordA a b = 0 ↔ a = b := by
 constructor
 ·intro h
  obtain ⟨h1, h2, h3⟩ := (ordA_key a b).2.1 h
  have h1 := kV_inj h1
  obtain ⟨av, ah, al⟩ := a
  obtain ⟨bv, bh, bl⟩ := b
  simp only at h1 h2 h3
  rw [h1, h2, h3]
 ·rintro rfl
  exact (ordA_key a a).2.2 ⟨rfl, rfl, rfl⟩
section
variable {A R α : Type}
end
end Go.Ma
namespace Go.Ma
open Go
end Go.Ma
namespace Go.Ma
open Go
end Go.Ma
namespace Go.Ma
open Go
theorem adLt_ord (a b : Ad) : adLt a b = decide (ordA a b < 0) := by
 rw [Bool.eq_iff_iff, adLt_iff, decide_eq_true_iff, (ordA_key a b).1]
 unfold kV
 cases a.v6 <;> cases b.v6 <;> simp
end Go.Ma
namespace Go.Ma
open Go
theorem pfLt_ord (p q : Pf) : pfLt p q = decide (ordP p q < 0) := by
 unfold pfLt ordP
 rw [adLt_ord]
 by_cases h : ordA p.ad q.ad = 0
 ·have e : p.ad = q.ad := ordA_eq0.1 h
  rw [if_neg (fun hh => hh h), decide_eq_false (show ¬ ordA p.ad q.ad < 0 by omega), Bool.false_or, decide_eq_true e, Bool.true_and, decide_eq_decide]
  omega
 ·have e : p.ad ≠ q.ad := fun e => h (ordA_eq0.2 e)
  rw [if_pos h, decide_eq_false e, Bool.false_and, Bool.or_false]
theorem sortP_right {l : List Pf} (h : ∀ p ∈ l, rtP p) : ∀ p ∈ sortP l, rtP p := fun p hp => h p ((sortP_perm l).mem_iff.1 hp)
theorem sortP_rise {l : List Pf} (h : ∀ p ∈ l, rtP p) : ((sortP l).map toB).Pairwise fun a b => ¬ ordB b a := by
 refine List.pairwise_map.2 (List.Pairwise.imp_of_mem (fun {a b} ha hb hab => ?_) (sortP_pw l))
 rw [← toB_ord (sortP_right h b hb) (sortP_right h a ha)]
 have hab : pfLt b a = false := hab
 rw [pfLt_ord, decide_eq_false_iff_not] at hab
 exact hab
theorem fits_of {l : List Pf} (h : ∀ p ∈ l, rtP p) : ∀ b ∈ l.map toB, fitB b := fun b hb => by
 obtain ⟨p, hp, rfl⟩ := List.mem_map.1 hb
 exact toB_fit (h p hp)
theorem covB_perm {l m : List Bk} (h : l.Perm m) (v : Bool) (n : Nat) : covB l v n ↔ covB m v n := by
 unfold covB
 constructor
 ·rintro ⟨b, hb, hh⟩; exact ⟨b, h.mem_iff.1 hb, hh⟩
 ·rintro ⟨b, hb, hh⟩; exact ⟨b, h.mem_iff.2 hb, hh⟩
theorem normC_congr {S T : Bool → Nat → Prop} (h : ∀ v n, n < 2 ^ wid v → (S v n ↔ T v n)) : normC S = normC T := by
 unfold normC
 rw [canon_congr (v := false) (S := S false) (T := T false) fun n _ h2 => h false n (by rw [Nat.zero_add, Nat.one_mul] at h2; exact h2), canon_congr (v := true) (S := S true) (T := T true) fun n _ h2 => h true n (by rw [Nat.zero_add, Nat.one_mul] at h2; exact h2)]
theorem short_P {l : List Pf} (h : ∀ p ∈ l, rtP p) : shortS ((sortP l).map toB) = normC (covB (l.map toB)) := by
 rw [short_norm (sortP_rise h) (fits_of (sortP_right h))]
 exact normC_congr fun v n _ => covB_perm ((sortP_perm l).map toB) v n
end Go.Ma
namespace Go.Ma
open Go
theorem canon_v {v : Bool} {S : Nat → Prop} : ∀ {F K : Nat} {b : Bk}, b ∈ canon v S F K → b.v = v
 | 0, K, b, h => by
  unfold canon at h
  split at h
  ·simp only [List.mem_singleton] at h; rw [h]
  ·cases h
 | F + 1, K, b, h => by
  unfold canon at h
  split at h
  ·simp only [List.mem_singleton] at h; rw [h]
  ·rcases List.mem_append.1 h with h | h
   ·exact canon_v h
   ·exact canon_v h
theorem canon_in {v : Bool} {S : Nat → Prop} : ∀ {F K : Nat} {b : Bk}, b ∈ canon v S F K → K * 2 ^ F ≤ b.lo ∧ b.hi ≤ (K + 1) * 2 ^ F
 | 0, K, b, h => by
  unfold canon at h
  split at h
  ·simp only [List.mem_singleton] at h; rw [h]; exact ⟨Nat.le_refl _, Nat.le_refl _⟩
  ·cases h
 | F + 1, K, b, h => by
  unfold canon at h
  have e1 := dblA K F
  have e2 := dblB K F
  have e3 := dblC K F
  have e4 := dblD K F
  split at h
  ·simp only [List.mem_singleton] at h; rw [h]; exact ⟨Nat.le_refl _, Nat.le_refl _⟩
  ·rcases List.mem_append.1 h with h | h
   ·obtain ⟨g1, g2⟩ := canon_in h; omega
   ·obtain ⟨g1, g2⟩ := canon_in h; omega
theorem canon_cov {v : Bool} {S : Nat → Prop} : ∀ {F K : Nat} {n : Nat}, K * 2 ^ F ≤ n → n < (K + 1) * 2 ^ F → (covB (canon v S F K) v n ↔ S n)
 | 0, K, n, h1, h2 => by
  have e : n = K := by simp at h1 h2; omega
  unfold canon
  split
  ·rename_i hs
   rw [covB_one, e]
   exact ⟨fun _ => hs, fun _ => ⟨rfl, by unfold Bk.lo; simp, by unfold Bk.hi; simp⟩⟩
  ·rename_i hs
   rw [e]
   exact ⟨fun ⟨b, hb, _⟩ => (by cases hb), fun h => absurd h hs⟩
 | F + 1, K, n, h1, h2 => by
  unfold canon
  split
  ·rename_i hs
   rw [covB_one]
   exact ⟨fun _ => hs n h1 h2, fun _ => ⟨rfl, h1, h2⟩⟩
  ·rw [covB_app]
   rw [dblA] at h1
   rw [dblB] at h2
   by_cases hn : n < (2 * K + 1) * 2 ^ F
   ·rw [canon_cov h1 hn]
    refine ⟨fun h => h.elim id fun ⟨b, hb, hh⟩ => ?_, .inl⟩
    have := (canon_in hb).1
    have := hh.2.1
    omega
   ·rw [canon_cov (F := F) (K := 2 * K + 1) (by omega) h2]
    refine ⟨fun h => h.elim (fun ⟨b, hb, hh⟩ => ?_) id, .inr⟩
    have := (canon_in hb).2
    have := hh.2.2
    omega
theorem normC_fit {S : Bool → Nat → Prop} : ∀ b ∈ normC S, fitB b := fun b hb => by
 rcases List.mem_append.1 hb with hb | hb
 ·have h1 := canon_v hb
  have h2 := canon_f hb
  have h3 := (canon_in hb).2
  rw [Nat.zero_add, Nat.one_mul] at h3
  exact ⟨by rw [h1]; exact h2, by rw [h1]; exact h3⟩
 ·have h1 := canon_v hb
  have h2 := canon_f hb
  have h3 := (canon_in hb).2
  rw [Nat.zero_add, Nat.one_mul] at h3
  exact ⟨by rw [h1]; exact h2, by rw [h1]; exact h3⟩
theorem normC_cov {S : Bool → Nat → Prop} {v : Bool} {n : Nat} (hn : n < 2 ^ wid v) : covB (normC S) v n ↔ S v n := by
 have other : ∀ {w u : Bool} {F K : Nat} {T : Nat → Prop}, w ≠ u → ¬ covB (canon w T F K) u n := fun hw ⟨b, hb, hh⟩ => hw ((canon_v hb).symm.trans hh.1)
 unfold normC
 rw [covB_app]
 cases v
 ·rw [canon_cov (F := 32) (K := 0) (by simp) (by rw [Nat.zero_add, Nat.one_mul]; exact hn)]
  exact ⟨fun h => h.elim id fun h => absurd h (other (by simp)), .inl⟩
 ·rw [canon_cov (F := 128) (K := 0) (by simp) (by rw [Nat.zero_add, Nat.one_mul]; exact hn)]
  exact ⟨fun h => h.elim (fun h => absurd h (other (by simp))) id, .inr⟩
theorem less_norm {m : List Pf} (hm : ∀ p ∈ m, rtP p) {p : Bk} {l : List Bk} (he : m.map toB = lessB p l) : shortS ((sortP m).map toB) = normC (diffB l [p]) := by
 rw [short_P hm, he]
 refine normC_congr fun v n _ => ?_
 rw [lessB_cov]
 unfold diffB
 rw [covB_one]
theorem ofB_right {l : List Bk} (h : ∀ b ∈ l, fitB b) : ∀ p ∈ l.map ofB, rtP p := fun p hp => by
 obtain ⟨b, hb, rfl⟩ := List.mem_map.1 hp
 exact (ofB_ok (h b hb)).1
theorem toB_ofB_map {l : List Bk} (h : ∀ b ∈ l, fitB b) : (l.map ofB).map toB = l := by
 rw [List.map_map]
 have : ∀ b ∈ l, (toB ∘ ofB) b = id b := fun b hb => (ofB_ok (h b hb)).2
 rw [List.map_congr_left this, List.map_id]
end Go.Ma
namespace Go.Ma
open Go
theorem one_norm {b : Bk} (h : fitB b) : [b] = normC (covB [b]) :=
 norm_two ⟨List.pairwise_singleton _ _, fun x hx y hy => by
  simp only [List.mem_singleton] at hx hy
  subst hx hy
  rintro ⟨_, _, _, h4⟩
  omega⟩ (fun x hx => by simp only [List.mem_singleton] at hx; rw [hx]; exact h) fun _ _ _ => Iff.rfl
theorem canon_norm {v : Bool} {S : Nat → Prop} : ∀ {F K : Nat}, NormB (canon v S F K)
 | 0, K => by
  unfold canon
  split
  ·refine ⟨List.pairwise_singleton _ _, fun x hx y hy => ?_⟩
   simp only [List.mem_singleton] at hx hy
   subst hx hy
   rintro ⟨_, _, _, h4⟩
   omega
  ·exact ⟨List.Pairwise.nil, fun x hx => by cases hx⟩
 | F + 1, K => by
  by_cases hall : ∀ n, K * 2 ^ (F + 1) ≤ n → n < (K + 1) * 2 ^ (F + 1) → S n
  ·rw [canon_all hall]
   refine ⟨List.pairwise_singleton _ _, fun x hx y hy => ?_⟩
   simp only [List.mem_singleton] at hx hy
   subst hx hy
   rintro ⟨_, _, _, h4⟩
   omega
  have e : canon v S (F + 1) K = canon v S F (2 * K) ++ canon v S F (2 * K + 1) := by
   conv => lhs; unfold canon
   rw [if_neg hall]
  have hl := canon_norm (v := v) (S := S) (F := F) (K := 2 * K)
  have hr := canon_norm (v := v) (S := S) (F := F) (K := 2 * K + 1)
  have e1 := dblA K F
  have e2 := dblB K F
  rw [e]
  refine ⟨List.pairwise_append.2 ⟨hl.asc, hr.asc, fun a ha b hb => ?_⟩, fun a ha b hb hs => ?_⟩
  ·exact .inr ⟨(canon_v ha).trans (canon_v hb).symm, Nat.le_trans (canon_in ha).2 (canon_in hb).1⟩
  ·obtain ⟨_, q2, _⟩ := sib_parts hs
   have qa := a.lo_lt_hi
   have qb := b.lo_lt_hi
   rcases List.mem_append.1 ha with ha | ha <;> rcases List.mem_append.1 hb with hb | hb
   ·exact hl.nos a ha b hb hs
   · -- halves that meet at the middle: both are whole
    have a1 := (canon_in ha).2
    have b1 := (canon_in hb).1
    obtain ⟨s1, s2, s3, s4⟩ := hs
    have hmid : a.hi = (2 * K + 1) * 2 ^ F := by omega
    have haf := canon_f ha
    have h5 : (a.k + 1) * 2 ^ a.f = (2 * K + 1) * 2 ^ F := hmid
    obtain ⟨d, hd⟩ : ∃ d, F = a.f + d := ⟨F - a.f, by omega⟩
    rw [hd, Nat.pow_add, Nat.mul_comm (2 ^ a.f) (2 ^ d), ← Nat.mul_assoc] at h5
    have h6 : a.k + 1 = (2 * K + 1) * 2 ^ d := Nat.eq_of_mul_eq_mul_right (Nat.two_pow_pos a.f) h5
    cases d with
    | succ d =>
     rw [Nat.pow_succ, ← Nat.mul_assoc] at h6
     omega
    | zero =>
     have hf : a.f = F := by omega
     have hak : a.k = 2 * K := by simp at h6; omega
     have ea : a = ⟨v, F, 2 * K⟩ := by
      have := canon_v ha
      obtain ⟨av, af, ak⟩ := a
      simp only at this hf hak
      rw [this, hf, hak]
     have eb : b = ⟨v, F, 2 * K + 1⟩ := by
      have := canon_v hb
      obtain ⟨bv, bf, bk⟩ := b
      simp only at this s2 s4
      rw [this, ← s2, hf, s4, hak]
     rw [ea] at ha
     rw [eb] at hb
     refine hall fun n g1 g2 => ?_
     rw [e1] at g1
     rw [e2] at g2
     by_cases hn : n < (2 * K + 1) * 2 ^ F
     ·exact (canon_cov g1 hn).1 ⟨_, ha, rfl, g1, hn⟩
     ·exact (canon_cov (F := F) (K := 2 * K + 1) (by omega) g2).1 ⟨_, hb, rfl, by show (2 * K + 1) * 2 ^ F ≤ n; omega, g2⟩
   ·have a1 := (canon_in ha).1
    have b1 := (canon_in hb).2
    omega
   ·exact hr.nos a ha b hb hs
theorem norm_within {b : Bk} (h : fitB b) {S : Bool → Nat → Prop} (hS : ∀ v n, S v n → b.has v n) : normC S = canon b.v (S b.v) b.f b.k := by
 have hfit := normC_fit (S := S)
 have hn : NormB (canon b.v (S b.v) b.f b.k) ∧ ∀ x ∈ canon b.v (S b.v) b.f b.k, fitB x := ⟨canon_norm, fun x hx => by
  have h1 := canon_v hx
  have h2 := canon_f hx
  have h3 := (canon_in hx).2
  have h4 := h.1
  have h5 : (b.k + 1) * 2 ^ b.f ≤ 2 ^ wid b.v := h.2
  exact ⟨by rw [h1]; omega, by rw [h1]; omega⟩⟩
 refine (norm_two hn.1 hn.2 fun v n hv => ?_).symm
 constructor
 ·rintro ⟨x, hx, hh⟩
  have h1 := canon_v hx
  have hv : v = b.v := hh.1.symm.trans h1
  subst hv
  obtain ⟨g1, g2⟩ := canon_in hx
  exact (canon_cov (by have := hh.2.1; omega) (by have := hh.2.2; omega)).1 ⟨x, hx, hh⟩
 ·intro hs
  obtain ⟨g1, g2, g3⟩ := hS v n hs
  subst g1
  exact (canon_cov g2 g3).2 hs
end Go.Ma
namespace Go.Ma
open Go
def firstBad : List Pf → Int
 | [] => 0
 | p :: r => if chkP p ≠ 0 then chkP p else firstBad r
def chkL (l : List Pf) : Int := if 12 < l.length then 2 else firstBad l
theorem firstBad_ok : ∀ {l : List Pf}, firstBad l = 0 → ∀ p ∈ l, chkP p = 0
 | [], _, p, hp => by cases hp
 | q :: r, h, p, hp => by
  unfold firstBad at h
  split at h
  ·rename_i h1; exact absurd h h1
  rename_i h1
  rcases List.mem_cons.1 hp with rfl | hp
  ·exact Decidable.not_not.1 h1
  ·exact firstBad_ok h p hp
theorem firstBad_all : ∀ {l : List Pf}, (∀ p ∈ l, chkP p = 0) → firstBad l = 0
 | [], _ => rfl
 | q :: r, h => by
  unfold firstBad
  rw [if_neg (fun hh => hh (h q List.mem_cons_self))]
  exact firstBad_all fun p hp => h p (List.mem_cons_of_mem _ hp)
theorem chkL_ok {l : List Pf} (hin : tabIn l) (h : chkL l = 0) : l.length ≤ 12 ∧ ∀ p ∈ l, rtP p := by
 unfold chkL at h
 split at h
 ·cases h
 ·rename_i h1
  exact ⟨by omega, fun p hp => ⟨hin p hp, firstBad_ok h p hp⟩⟩
theorem chkL_of {l : List Pf} (hl : l.length ≤ 12) (h : ∀ p ∈ l, chkP p = 0) : chkL l = 0 := by
 unfold chkL
 rw [if_neg (by omega), firstBad_all h]
theorem drop_bad {l : List Pf} {i : Nat} {p : Pf} (h : l[i]? = some p) : firstBad (l.drop i) = if chkP p ≠ 0 then chkP p else firstBad (l.drop (i + 1)) := by
 rw [drop_cons h]
 rfl
def badOut (l : List Pf) (e : Int) : (((Int × Unit) × Unit) × (List Pf × Unit)) ⊕ (Unit × (List Pf × Unit)) := if e ≠ 0 then Sum.inl (((e, ()), ()), (l, ())) else Sum.inr ((), (l, ()))
theorem span_Right_eq {l : List Pf} (h : tabIn l) : span_Right_t l = some (chkL l, ()) := by
 unfold span_Right_t chkL
 by_cases hl : 12 < l.length
 ·rw [decide_eq_true (show lenL l > 12 by unfold lenL; omega), br_true, if_pos hl]
 rw [decide_eq_false (show ¬ lenL l > 12 by unfold lenL; omega), br_false, if_neg hl]
 have hloop : loopN span_Right_L4 FUEL (((), (lenL l, ()), (0, ()), ()), (l, ())) = some (badOut l (firstBad (l.drop 0))) := by
  refine loop_up (step := span_Right_L4) (fun i => (((), (lenL l, ()), ((i : Int), ()), ()), (l, ()))) l.length (fun i => some (badOut l (firstBad (l.drop i)))) (fun rec i hi hr => ?_) (fun rec => ?_) FUEL 0 (Nat.zero_le _) (fuel_gt (by omega))
  ·obtain ⟨p, hp⟩ : ∃ e, l[i]? = some e := ⟨_, List.getElem?_eq_getElem hi⟩
   simp only [span_Right_L4]
   rw [decide_eq_true (show (i : Int) < lenL l by unfold lenL; omega), br_true, req_of (inRange_of (by omega) (by unfold lenL; omega)), geti_at hp, bind_s, zq18 (h p (List.mem_of_getElem? hp)), bind_s, drop_bad hp]
   by_cases hc : chkP p = 0
   ·rw [decide_eq_true (show (chkP p, ()).1 = 0 from hc), Bool.not_true, br_false, if_neg (fun hh => hh hc), show ((i : Int) + 1) = ((i + 1 : Nat) : Int) by omega, req_of (i64ok_of (by omega) (by omega)), hr]
   ·rw [decide_eq_false (show ¬ (chkP p, ()).1 = 0 from hc), Bool.not_false, br_true, if_pos hc]
    unfold badOut
    rw [if_pos hc]
  ·simp only [span_Right_L4]
   rw [decide_eq_false (show ¬ (l.length : Int) < lenL l by unfold lenL; omega), br_false, List.drop_of_length_le (Nat.le_refl _)]
   rfl
 rw [hloop, bind_s, List.drop_zero]
 unfold badOut
 by_cases hb : firstBad l = 0
 ·rw [if_neg (fun hh => hh hb), hb]
  rfl
 ·rw [if_pos hb]
  rfl
theorem half_one {v : Bool} {F K : Nat} {p : Bk} (h1 : overBk ⟨v, F, 2 * K⟩ p = true) (h2 : overBk ⟨v, F, 2 * K + 1⟩ p = true) : False := by
 have a := (overBk_iff.1 h1).2.2
 have b := (overBk_iff.1 h2).2.2
 simp only at a b
 omega
theorem restB_one {p : Bk} {v : Bool} : ∀ {F K : Nat}, overBk ⟨v, F, K⟩ p = false → (restB p v F K).length ≤ 1
 | 0, K, h => by unfold restB; split <;> simp
 | F + 1, K, h => by
  unfold restB
  split
  ·simp
  ·simp [h]
theorem restB_len (p : Bk) (v : Bool) : ∀ (F K : Nat), (restB p v F K).length ≤ F + 1
 | 0, K => by unfold restB; split <;> simp
 | F + 1, K => by
  unfold restB
  split
  ·simp
  ·split
   ·simp
   ·rw [List.length_append]
    have l1 := restB_len p v F (2 * K)
    have l2 := restB_len p v F (2 * K + 1)
    by_cases h1 : overBk ⟨v, F, 2 * K⟩ p = true
    ·have h2 : overBk ⟨v, F, 2 * K + 1⟩ p = false := by
      cases h2 : overBk ⟨v, F, 2 * K + 1⟩ p
      ·rfl
      ·exact (half_one h1 h2).elim
     have := restB_one h2
     omega
    ·have := restB_one (p := p) (v := v) (F := F) (K := 2 * K) (by simpa using h1)
     omega
theorem lessB_len (p : Bk) : ∀ (l : List Bk), (∀ b ∈ l, b.f ≤ 128) → (lessB p l).length ≤ 129 * l.length
 | [], _ => by simp [lessB]
 | b :: r, h => by
  have h1 := restB_len p b.v b.f b.k
  have h2 := lessB_len p r fun x hx => h x (List.mem_cons_of_mem _ hx)
  have h3 := h b List.mem_cons_self
  show (restB p b.v b.f b.k ++ lessB p r).length ≤ _
  rw [List.length_append, List.length_cons]
  omega
theorem lessB_norm (p : Bk) : ∀ (l : List Bk), l.Pairwise befB → (∀ b ∈ l, b.f ≤ 128) → (lessB p l).length ≤ l.length + 128
 | [], _, _ => by simp [lessB]
 | b :: r, hp, h => by
  obtain ⟨q1, q2⟩ := List.pairwise_cons.1 hp
  show (restB p b.v b.f b.k ++ lessB p r).length ≤ _
  rw [List.length_append, List.length_cons]
  by_cases ho : overBk b p = true
  ·have h1 := restB_len p b.v b.f b.k
   have h3 := h b List.mem_cons_self
   have hr : ∀ c ∈ r, overBk c p = false := fun c hc => by
    cases hx : overBk c p
    ·rfl
    ·exfalso
     obtain ⟨a1, a2, a3⟩ := overBk_range ho
     obtain ⟨b1, b2, b3⟩ := overBk_range hx
     have hlt := p.lo_lt_hi
     rcases q1 c hc with ⟨g1, g2⟩ | ⟨g1, g2⟩
     ·rw [a1] at g1; rw [b1, g1] at g2; cases g2
     ·omega
   have hone : ∀ (m : List Bk), (∀ c ∈ m, overBk c p = false) → (lessB p m).length ≤ m.length := by
    intro m hm
    induction m with
    | nil => simp [lessB]
    | cons c s ih =>
     show (restB p c.v c.f c.k ++ lessB p s).length ≤ _
     rw [List.length_append, List.length_cons]
     have g1 := restB_one (p := p) (v := c.v) (F := c.f) (K := c.k) (hm c List.mem_cons_self)
     have g2 := ih fun x hx => hm x (List.mem_cons_of_mem _ hx)
     omega
   have := hone r hr
   omega
  ·have h1 := restB_one (p := p) (v := b.v) (F := b.f) (K := b.k) (by simpa using ho)
   have h2 := lessB_norm p r q2 fun x hx => h x (List.mem_cons_of_mem _ hx)
   omega
theorem fit_f {b : Bk} (h : fitB b) : b.f ≤ 128 := Nat.le_trans h.1 (wid_top b.v)
theorem over_B {p q : Pf} (hp : rtP p) (hq : rtP q) : prefix_Over_t p q = some (overBk (toB p) (toB q), ()) := by
 rw [prefix_Over_eq hp.2 hq.1, toB_over hp hq]
theorem rest_fuel {p : Pf} (hp : rtP p) {v : Bool} : ∀ (n F K : Nat), F < n → fitB ⟨v, F, K⟩ → span_rest_fuel n (ofB ⟨v, F, K⟩) p = some ((restB (toB p) v F K).map ofB, ())
 | 0, F, K, h, _ => by omega
 | n + 1, F, K, h, hf => by
  obtain ⟨h1, h2⟩ := ofB_ok hf
  show span_rest_step (span_rest_fuel n) (ofB ⟨v, F, K⟩) p = _
  unfold span_rest_step
  rw [over_B hp h1, bind_s, over_B h1 hp, bind_s, h2]
  by_cases c1 : overBk (toB p) ⟨v, F, K⟩ = true
  ·simp only [c1, br_true]
   cases F <;> (unfold restB; rw [if_pos c1]; rfl)
  have c1' : overBk (toB p) ⟨v, F, K⟩ = false := by simpa using c1
  simp only [c1', br_false]
  cases F with
  | zero =>
   have c2 : overBk ⟨v, 0, K⟩ (toB p) = false := by
    cases hx : overBk ⟨v, 0, K⟩ (toB p)
    ·rfl
    ·exfalso
     obtain ⟨a, b, c⟩ := overBk_iff.1 hx
     simp only at a b c
     refine c1 (overBk_iff.2 ⟨a.symm, by show 0 ≤ _; omega, ?_⟩)
     have e : (toB p).f = 0 := by omega
     rw [e] at c ⊢
     simp at c ⊢
     exact c.symm
   rw [c2, Bool.not_false, br_true]
   unfold restB
   rw [if_neg c1]
   rfl
  | succ F =>
   by_cases c2 : overBk ⟨v, F + 1, K⟩ (toB p) = true
   ·rw [c2, Bool.not_true, br_false, prefix_Split_eq, split_eq hf (Nat.succ_pos _), bind_s]
    have fl := loB_fit hf (Nat.succ_pos _)
    have fh := hiB_fit hf (Nat.succ_pos _)
    have e1 := rest_fuel hp n F (2 * K) (by omega) fl
    have e2 := rest_fuel hp n F (2 * K + 1) (by omega) fh
    have g1 : loB ⟨v, F + 1, K⟩ = ⟨v, F, 2 * K⟩ := rfl
    have g2 : hiB ⟨v, F + 1, K⟩ = ⟨v, F, 2 * K + 1⟩ := rfl
    simp only [g1, g2]
    rw [e1, bind_s, e2, bind_s]
    have l1 := restB_len (toB p) v F (2 * K)
    have l2 := restB_len (toB p) v F (2 * K + 1)
    have hF := fit_f hf
    simp only at hF
    rw [req_of (room_of (zq11 _) (zq11 _) (by unfold lenL; simp only [List.length_map]; omega)), ← List.map_append]
    conv => rhs; unfold restB
    rw [if_neg c1, if_neg (by rw [c2]; decide)]
   ·have c2' : overBk ⟨v, F + 1, K⟩ (toB p) = false := by simpa using c2
    rw [c2', Bool.not_false, br_true]
    conv => rhs; unfold restB
    rw [if_neg c1, if_pos c2']
    rfl
theorem span_rest_eq {q p : Pf} (hq : rtP q) (hp : rtP p) : span_rest_t q p = some ((restB (toB p) (toB q).v (toB q).f (toB q).k).map ofB, ()) := by
 have hf := toB_fit hq
 have hF := fit_f hf
 have := rest_fuel hp (v := (toB q).v) RECN (toB q).f (toB q).k (by unfold RECN; omega) hf
 rw [show (⟨(toB q).v, (toB q).f, (toB q).k⟩ : Bk) = toB q from rfl, ofB_toB hq] at this
 exact this
end Go.Ma
namespace Go.Ma
open Go
noncomputable def nP (S : Bool → Nat → Prop) : List Pf := (normC S).map ofB
theorem nP_congr {S T : Bool → Nat → Prop} (h : ∀ v n, n < 2 ^ wid v → (S v n ↔ T v n)) : nP S = nP T := congrArg (List.map ofB) (normC_congr h)
theorem nP_right (S : Bool → Nat → Prop) : ∀ p ∈ nP S, rtP p := ofB_right normC_fit
theorem nP_toB (S : Bool → Nat → Prop) : (nP S).map toB = normC S := toB_ofB_map normC_fit
theorem clone_eq {l : List Pf} (h : l.length ≤ 274877906944) : zq23 l = some (l, ()) := by
 unfold zq23
 have e : req (room (lenL ([] : List Pf)) (lenL l)) (some (([] : List Pf) ++ l, ())) = some (l, ()) := by
  rw [req_of (room_of (zq11 _) (zq11 _) (by simp only [lenL, List.length_nil]; omega))]
  rfl
 rw [e]
 cases l with
 | nil => exact both_self _
 | cons a r => rfl
theorem take_last {α : Type} {L : List α} {r : List α} {t : α} (h : L.take (r.length + 1) = r ++ [t]) : L[r.length]? = some t ∧ L.take r.length = r := by
 have hl : r.length < L.length := by
  have := congrArg List.length h
  simp at this
  omega
 have e : L.take (r.length + 1) = L.take r.length ++ [L[r.length]] := List.take_succ_eq_append_getElem hl
 rw [e] at h
 have hlen : (L.take r.length).length = r.length := by simp; omega
 obtain ⟨h1, h2⟩ := List.append_inj h hlen
 exact ⟨by rw [List.getElem?_eq_getElem hl]; simpa using h2, h1⟩
theorem put_loop {A M L : List Pf} {q : Pf} (hL : L.length < 9223372036854775808) : ∀ (rs : List Bk) (p : Bk) (N : Nat), (∀ b ∈ rs, fitB b) → fitB p → rs.length < N → L.take rs.length = rs.reverse.map ofB → rs.length ≤ L.length →
  ∃ (n : Nat) (p' : Pf), loopN zq32 N (((), (), ((rs.length : Int), ()), ()), (A, (), M, L, (q, ()), (ofB p, ()), ())) = some (((), (), ((n : Int), ()), ()), (A, (), M, L, (q, ()), (p', ()), ())) ∧ n ≤ L.length ∧ L.take n ++ [p'] = (joinS rs p).reverse.map ofB
 | [], p, 0, _, _, h, _, _ => by simp at h
 | [], p, N + 1, _, hp, _, ht, _ => by
  refine ⟨0, ofB p, ?_, Nat.zero_le _, rfl⟩
  rw [loopN_succ]
  rfl
 | t :: r, p, 0, _, _, h, _, _ => by simp at h
 | t :: r, p, N + 1, hr, hp, h, ht, hle => by
  simp only [List.length_cons] at h ht hle
  have hr' : ∀ b ∈ r, fitB b := fun b hb => hr b (List.mem_cons_of_mem _ hb)
  have ht' := hr t List.mem_cons_self
  have hx : L.take ((r.reverse.map ofB).length + 1) = r.reverse.map ofB ++ [ofB t] := by
   rw [List.length_map, List.length_reverse, ht, List.reverse_cons, List.map_append]
   rfl
  obtain ⟨g1, g2⟩ := take_last hx
  rw [List.length_map, List.length_reverse] at g1 g2
  obtain ⟨ot1, ot2⟩ := ofB_ok ht'
  obtain ⟨op1, op2⟩ := ofB_ok hp
  obtain ⟨w, e1, e2⟩ := join_eq ot1 op1
  rw [ot2, op2] at e1 e2
  have hbody : loopN zq32 (N + 1) (((), (), (((t :: r).length : Int), ()), ()), (A, (), M, L, (q, ()), (ofB p, ()), ())) =
    br (!decide (sib t p)) (some (((), (), (((t :: r).length : Int), ()), ()), (A, (), M, L, (q, ()), (ofB p, ()), ()))) (loopN zq32 N (((), (), ((r.length : Int), ()), ()), (A, (), M, L, (q, ()), (w, ()), ()))) := by
   rw [loopN_succ]
   simp only [zq32]
   have hc : ((t :: r).length : Int) - 1 = (r.length : Int) := by simp only [List.length_cons]; omega
   rw [decide_eq_true (show ((t :: r).length : Int) > 0 by simp only [List.length_cons]; omega), br_true, hc, req_of (i64ok_of (by omega) (by omega)), req_of (inRange_of (by omega) (by unfold lenL; omega)), geti_at g1, bind_s, dup_eq, prefix_Joined_eq, e1, bind_s, req_of (i64ok_of (by omega) (by omega))]
  by_cases hs : sib t p
  ·obtain ⟨rfl, hf⟩ := e2 hs
   rw [hbody, decide_eq_true hs, Bool.not_true, br_false]
   obtain ⟨n, p', q1, q2, q3⟩ := put_loop hL r (upB t) N hr' hf (by omega) g2 (by omega)
   refine ⟨n, p', q1, q2, ?_⟩
   rw [q3, joinS, if_pos hs]
  ·rw [hbody, decide_eq_false hs, Bool.not_false, br_true]
   refine ⟨(t :: r).length, ofB p, rfl, hle, ?_⟩
   rw [joinS, if_neg hs]
   simp only [List.length_cons, ht, List.reverse_cons, List.map_append]
   rfl
noncomputable def stackP (m : List Pf) (i : Nat) : List Bk := ((m.take i).map toB).foldl putS []
theorem stackP_succ {m : List Pf} {i : Nat} {p : Pf} (h : m[i]? = some p) : stackP m (i + 1) = putS (stackP m i) (toB p) := by
 obtain ⟨hl, rfl⟩ := List.getElem?_eq_some_iff.1 h
 unfold stackP
 rw [List.take_succ_eq_append_getElem hl, List.map_append, List.foldl_append]
 rfl
theorem stackP_fit {m : List Pf} (h : ∀ p ∈ m, rtP p) : ∀ i, i ≤ m.length → (∀ b ∈ stackP m i, fitB b) ∧ (stackP m i).length ≤ i
 | 0, _ => ⟨fun b hb => by simp [stackP] at hb, by simp [stackP]⟩
 | i + 1, hi => by
  obtain ⟨h1, h2⟩ := stackP_fit h i (by omega)
  have hp : m[i]? = some m[i] := List.getElem?_eq_getElem (by omega)
  rw [stackP_succ hp]
  have := putS_len (stackP m i) (toB m[i])
  exact ⟨putS_fit h1 (toB_fit (h _ (List.getElem_mem _))), by omega⟩
theorem short_loop {A m : List Pf} (h : ∀ p ∈ m, rtP p) (hl : m.length ≤ 137438953472) :
  loopN span_Short_L5 FUEL (((), (), (lenL m, ()), (0, ()), ()), (A, (), m, ([] : List Pf), ())) = some (((), ()), (A, (), (shortS (m.map toB)).map ofB, ())) := by
 refine loop_up (step := span_Short_L5) (fun i => (((), (), (lenL m, ()), ((i : Int), ()), ()), (A, (), m, (stackP m i).reverse.map ofB, ()))) m.length (fun _ => some (((), ()), (A, (), (shortS (m.map toB)).map ofB, ()))) (fun rec i hi hr => ?_) (fun rec => ?_) FUEL 0 (Nat.zero_le _) (fuel_gt (by omega))
 ·obtain ⟨p, hp⟩ : ∃ e, m[i]? = some e := ⟨_, List.getElem?_eq_getElem hi⟩
  have rp := h p (List.mem_of_getElem? hp)
  obtain ⟨f1, f2⟩ := stackP_fit h i (by omega)
  rw [stackP_succ hp] at hr
  obtain ⟨rs, hrs⟩ : ∃ rs, rs = stackP m i := ⟨_, rfl⟩
  rw [← hrs] at hr f1 f2 ⊢
  have hlr : (rs.reverse.map ofB).length = rs.length := by simp
  have hput : (loopN zq32 FUEL (((), (), (lenL (rs.reverse.map ofB), ()), ()), (A, (), m, rs.reverse.map ofB, (p, ()), (p, ()), ()))).bind (fun y3 : ((Unit × Unit × (Int × Unit) × Unit) × (List Pf × Unit × List Pf × List Pf × (Pf × Unit) × (Pf × Unit) × Unit)) =>
    dup 1 <|
    req ((decide (0 ≤ y3.1.2.2.1.1)) && (decide (y3.1.2.2.1.1 ≤ lenL y3.2.2.2.2.1))) <|
    req (room (lenL (subL y3.2.2.2.2.1 0 y3.1.2.2.1.1)) (lenL ([y3.2.2.2.2.2.2.1.1] : List Pf))) <|
    req (i64ok ((i : Int) + 1)) <|
    rec (((()), (()), (lenL m, ()), ((i : Int) + 1, ()), ()), (y3.2.1, (()), y3.2.2.2.1, (subL y3.2.2.2.2.1 0 y3.1.2.2.1.1) ++ ([y3.2.2.2.2.2.2.1.1] : List Pf), ()))) =
    rec (((), (), (lenL m, ()), (((i + 1 : Nat) : Int), ()), ()), (A, (), m, (joinS rs (toB p)).reverse.map ofB, ())) := by
   obtain ⟨n, p', q1, q2, q3⟩ := put_loop (A := A) (M := m) (q := p) (L := rs.reverse.map ofB) (by omega) rs (toB p) FUEL f1 (toB_fit rp) (fuel_gt (by omega)) (List.take_of_length_le (by omega)) (by omega)
   rw [ofB_toB rp] at q1
   rw [show lenL (rs.reverse.map ofB) = (rs.length : Int) by unfold lenL; rw [hlr], q1, bind_s]
   have hsub : subL (rs.reverse.map ofB) 0 (n : Int) = (rs.reverse.map ofB).take n := by unfold subL; simp
   simp only [dup_eq]
   rw [hsub, q3]
   have hnl : ((rs.reverse.map ofB).take n).length ≤ n := by simp; omega
   have c1 : ((decide (0 ≤ (n : Int))) && (decide ((n : Int) ≤ lenL (rs.reverse.map ofB)))) = true := by
    rw [Bool.and_eq_true, decide_eq_true_iff, decide_eq_true_iff]
    unfold lenL
    omega
   rw [req_of c1, req_of (room_of (zq11 _) (zq11 _) (by unfold lenL; simp only [List.length_cons, List.length_nil]; omega)), req_of (i64ok_of (by omega) (by omega)), show ((i : Int) + 1) = ((i + 1 : Nat) : Int) by omega]
  simp only [span_Short_L5]
  rw [decide_eq_true (show (i : Int) < lenL m by unfold lenL; omega), br_true, req_of (inRange_of (by omega) (by unfold lenL; omega)), geti_at hp, bind_s, hput]
  cases rs with
  | nil =>
   rw [decide_eq_false (show ¬ lenL (([] : List Bk).reverse.map ofB) > 0 by unfold lenL; simp), br_false, bind_s, br_false, ← hr]
   rfl
  | cons t r =>
   have ht := f1 t List.mem_cons_self
   obtain ⟨ot1, ot2⟩ := ofB_ok ht
   have hll : lenL ((t :: r).reverse.map ofB) = (r.length : Int) + 1 := by unfold lenL; simp
   have hget : ((t :: r).reverse.map ofB)[r.length]? = some (ofB t) := by
    rw [List.reverse_cons, List.map_append, List.getElem?_append_right (by simp)]
    simp
   rw [hll, decide_eq_true (show (r.length : Int) + 1 > 0 by omega), br_true, show (r.length : Int) + 1 - 1 = (r.length : Int) by omega, req_of (i64ok_of (by omega) (by simp only [List.length_cons] at f2; omega)), req_of (inRange_of (by omega) (by omega)), geti_at hget, bind_s, over_B ot1 rp, bind_s, bind_s, ot2]
   by_cases ho : overBk t (toB p) = true
   ·simp only [ho, br_true]
    rw [show ((i : Int) + 1) = ((i + 1 : Nat) : Int) by omega, req_of (i64ok_of (by omega) (by omega)), ← hr]
    simp only [putS, if_pos ho]
   ·have ho' : overBk t (toB p) = false := by simpa using ho
    simp only [ho', br_false]
    rw [← hr]
    simp only [putS, ho', Bool.false_eq_true, if_false]
 ·simp only [span_Short_L5]
  rw [decide_eq_false (show ¬ (m.length : Int) < lenL m by unfold lenL; omega), br_false]
  unfold stackP shortS
  rw [List.take_length]
theorem sortOk_of {l : List Pf} (h : ∀ p ∈ l, rtP p) (hl : l.length ≤ 274877906944) : sortOkP l = true := by
 unfold sortOkP
 rw [Bool.and_eq_true, List.all_eq_true]
 refine ⟨room_of (zq11 _) (Int.le_refl _) (by unfold lenL; omega), fun p hp => ?_⟩
 obtain ⟨h1, h2⟩ := chkP_bits (h p hp).2
 have := wid_top p.ad.v6
 rw [Bool.and_eq_true, decide_eq_true_iff, decide_eq_true_iff]
 omega
theorem sortP_len (l : List Pf) : (sortP l).length = l.length := (sortP_perm l).length_eq
theorem span_Short_run {l : List Pf} (h : ∀ p ∈ l, rtP p) (hl : l.length ≤ 137438953472) : span_Short_t l = some ((shortS ((sortP l).map toB)).map ofB, ()) := by
 unfold span_Short_t
 rw [clone_eq (by omega), bind_s, req_of (sortOk_of h (by omega)), short_loop (sortP_right h) (by rw [sortP_len]; omega), bind_s]
theorem span_Short_eq {l : List Pf} (h : ∀ p ∈ l, rtP p) (hl : l.length ≤ 137438953472) : span_Short_t l = some (nP (covB (l.map toB)), ()) := by
 rw [span_Short_run h hl, short_P h]
 rfl
noncomputable def normT (l : List Pf) : List Pf × Int × Unit := if chkL l ≠ 0 then ([], chkL l, ()) else (nP (covB (l.map toB)), 0, ())
theorem span_Norm_eq {l : List Pf} (h : tabIn l) : span_Norm_t l = some (normT l) := by
 unfold span_Norm_t normT
 rw [span_Right_eq h, bind_s]
 by_cases hc : chkL l = 0
 ·obtain ⟨h1, h2⟩ := chkL_ok h hc
  rw [decide_eq_true (show (chkL l, ()).1 = 0 from hc), Bool.not_true, br_false, if_neg (fun hh => hh hc), span_Short_eq h2 (by omega), bind_s]
 ·rw [decide_eq_false (show ¬ (chkL l, ()).1 = 0 from hc), Bool.not_false, br_true, if_pos hc]
def hasL (l : List Pf) (a : Ad) : Bool × Int × Unit := if chkL l ≠ 0 then (false, chkL l, ()) else if chkA a ≠ 0 then (false, chkA a, ()) else (l.any (fun p => holds p a), 0, ())
def hasOut (l : List Pf) (a : Ad) (o : Option Nat) : ((((Int × Unit) × Unit) × (List Pf × (Ad × Unit) × Unit)) ⊕ (Unit × (List Pf × (Ad × Unit) × Unit))) :=
 match o with | some i => Sum.inl ((((i : Int), ()), ()), (l, (a, ()), ())) | none => Sum.inr ((), (l, (a, ()), ()))
theorem span_Has_eq {l : List Pf} {a : Ad} (h : tabIn l) (ha : a.In) : span_Has_t l a = some (hasL l a) := by
 unfold span_Has_t hasL
 rw [span_Right_eq h, bind_s]
 by_cases hc : chkL l = 0
 ·obtain ⟨h1, h2⟩ := chkL_ok h hc
  rw [decide_eq_true (show (chkL l, ()).1 = 0 from hc), br_true, if_neg (fun hh => hh hc), addr_Check_eq, bind_s]
  by_cases hca : chkA a = 0
  ·rw [decide_eq_true (show (chkA a, ()).1 = 0 from hca), Bool.not_true, br_false, if_neg (fun hh => hh hca)]
   have hloop := idx_loop (step := zq26) l (fun p => holds p a) (fun i => (((), (), (lenL l, ()), ((i : Int), ()), ()), (l, (a, ()), ()))) (hasOut l a) (by omega) (fun rec i p hp hi => ?_) (fun rec => ?_)
   ·rw [show ((0 : Nat) : Int) = 0 from rfl] at hloop
    rw [hloop, bind_s, ← firstF_any]
    cases firstF (fun p => holds p a) l with
    | none => rfl
    | some i =>
     show some (decide ((i : Int) ≥ 0), (0 : Int), ()) = _
     rw [decide_eq_true (show (i : Int) ≥ 0 by omega)]
     rfl
   ·obtain ⟨b1, b2⟩ := chkP_bits (h2 p (List.mem_of_getElem? hp)).2
    simp only [zq26]
    rw [decide_eq_true (show (i : Int) < lenL l by unfold lenL; omega), br_true, req_of (inRange_of (by omega) (by unfold lenL; omega)), geti_at hp, bind_s]
    unfold span_Has_1_t
    rw [prefix_Holds_eq b1 b2 ha, bind_s, bind_s, show ((i : Int) + 1) = ((i + 1 : Nat) : Int) by omega, req_of (i64ok_of (by omega) (by omega))]
    cases holds p a <;> rfl
   ·simp only [zq26]
    rw [decide_eq_false (show ¬ (l.length : Int) < lenL l by unfold lenL; omega), br_false]
    rfl
  ·rw [decide_eq_false (show ¬ (chkA a, ()).1 = 0 from hca), Bool.not_false, br_true, if_pos hca]
 ·rw [decide_eq_false (show ¬ (chkL l, ()).1 = 0 from hc), br_false, Bool.not_false, br_true, if_pos hc]
theorem lessB_take {m : List Pf} {b : Bk} {i : Nat} {p : Pf} (h : m[i]? = some p) : lessB b ((m.take (i + 1)).map toB) = lessB b ((m.take i).map toB) ++ restB b (toB p).v (toB p).f (toB p).k := by
 obtain ⟨hl, rfl⟩ := List.getElem?_eq_some_iff.1 h
 unfold lessB
 rw [List.take_succ_eq_append_getElem hl, List.map_append, List.flatMap_append]
 simp
theorem less_loop {l : List Pf} {p : Pf} (h : ∀ q ∈ l, rtP q) (hp : rtP p) (hl : l.length ≤ 1000000) :
  loopN span_Less_L3 FUEL (((), (), (), (lenL l, ()), (0, ()), ()), (l, (p, ()), ([] : List Pf), ())) = some (((), ()), (l, (lessB (toB p) (l.map toB)).map ofB, ())) := by
 refine loop_up (step := span_Less_L3) (fun i => (((), (), (), (lenL l, ()), ((i : Int), ()), ()), (l, (p, ()), (lessB (toB p) ((l.take i).map toB)).map ofB, ()))) l.length (fun _ => some (((), ()), (l, (lessB (toB p) (l.map toB)).map ofB, ()))) (fun rec i hi hr => ?_) (fun rec => ?_) FUEL 0 (Nat.zero_le _) (fuel_gt (by omega))
 ·obtain ⟨q, hq⟩ : ∃ e, l[i]? = some e := ⟨_, List.getElem?_eq_getElem hi⟩
  have rq := h q (List.mem_of_getElem? hq)
  simp only [span_Less_L3]
  have hlen := lessB_len (toB p) ((l.take i).map toB) (fun b hb => by
   obtain ⟨x, hx, rfl⟩ := List.mem_map.1 hb
   exact fit_f (toB_fit (h x (List.mem_of_mem_take hx))))
  have hlen2 := restB_len (toB p) (toB q).v (toB q).f (toB q).k
  have hf := fit_f (toB_fit rq)
  simp only [List.length_map, List.length_take] at hlen
  rw [decide_eq_true (show (i : Int) < lenL l by unfold lenL; omega), br_true, req_of (inRange_of (by omega) (by unfold lenL; omega)), geti_at hq, bind_s, span_rest_eq rq hp, bind_s,
   req_of (room_of (zq11 _) (zq11 _) (by unfold lenL; simp only [List.length_map]; omega)), show ((i : Int) + 1) = ((i + 1 : Nat) : Int) by omega, req_of (i64ok_of (by omega) (by omega)), ← hr, lessB_take hq, List.map_append]
 ·simp only [span_Less_L3]
  rw [decide_eq_false (show ¬ (l.length : Int) < lenL l by unfold lenL; omega), br_false, List.take_length]
theorem lessB_right {l : List Pf} (h : ∀ q ∈ l, rtP q) (b : Bk) : ∀ q ∈ (lessB b (l.map toB)).map ofB, rtP q := ofB_right (lessB_fit b (fits_of h))
theorem lessB_size {l : List Pf} (h : ∀ q ∈ l, rtP q) (b : Bk) : (lessB b (l.map toB)).length ≤ 129 * l.length := by
 have := lessB_len b (l.map toB) fun x hx => fit_f (fits_of h x hx)
 rwa [List.length_map] at this
theorem span_Less_run {l : List Pf} {p : Pf} (h : ∀ q ∈ l, rtP q) (hp : rtP p) (hl : l.length ≤ 1000000) : span_Less_t l p = some ((shortS ((sortP ((lessB (toB p) (l.map toB)).map ofB)).map toB)).map ofB, ()) := by
 unfold span_Less_t
 have := lessB_size h (toB p)
 rw [less_loop h hp hl, bind_s, span_Short_run (lessB_right h _) (by rw [List.length_map]; omega), bind_s]
theorem span_Less_eq {l : List Pf} {p : Pf} (h : ∀ q ∈ l, rtP q) (hp : rtP p) (hl : l.length ≤ 1000000) : span_Less_t l p = some (nP (diffB (l.map toB) [toB p]), ()) := by
 rw [span_Less_run h hp hl, less_norm (lessB_right h _) (p := toB p) (l := l.map toB) (toB_ofB_map (lessB_fit _ (fits_of h)))]
 rfl
theorem less_size {l : List Pf} (h : ∀ q ∈ l, rtP q) (b : Bk) : (nP (diffB (l.map toB) [b])).length ≤ (lessB b (l.map toB)).length := by
 have e := less_norm (lessB_right h b) (p := b) (l := l.map toB) (toB_ofB_map (lessB_fit _ (fits_of h)))
 unfold nP
 rw [List.length_map, ← e]
 have := short_len ((sortP ((lessB b (l.map toB)).map ofB)).map toB)
 rwa [List.length_map, sortP_len, List.length_map] at this
noncomputable def minusT (l : List Pf) (p : Pf) : List Pf × Int × Unit := if chkL l ≠ 0 then ([], chkL l, ()) else if chkP p ≠ 0 then ([], chkP p, ()) else (nP (diffB (l.map toB) [toB p]), 0, ())
theorem span_Minus_eq {l : List Pf} {p : Pf} (h : tabIn l) (hp : p.In) : span_Minus_t l p = some (minusT l p) := by
 unfold span_Minus_t minusT
 rw [span_Right_eq h, bind_s]
 by_cases hc : chkL l = 0
 ·obtain ⟨h1, h2⟩ := chkL_ok h hc
  rw [decide_eq_true (show (chkL l, ()).1 = 0 from hc), br_true, if_neg (fun hh => hh hc), zq18 hp, bind_s]
  by_cases hcp : chkP p = 0
  ·rw [decide_eq_true (show (chkP p, ()).1 = 0 from hcp), Bool.not_true, br_false, if_neg (fun hh => hh hcp), span_Less_eq h2 ⟨hp, hcp⟩ (by omega), bind_s]
  ·rw [decide_eq_false (show ¬ (chkP p, ()).1 = 0 from hcp), Bool.not_false, br_true, if_pos hcp]
 ·rw [decide_eq_false (show ¬ (chkL l, ()).1 = 0 from hc), br_false, Bool.not_false, br_true, if_pos hc]
end Go.Ma
namespace Go.Ma
open Go
theorem any_take {α : Type} {l : List α} {i : Nat} {a : α} (h : l[i]? = some a) (q : α → Bool) : (l.take (i + 1)).any q = ((l.take i).any q || q a) := by
 obtain ⟨hl, rfl⟩ := List.getElem?_eq_some_iff.1 h
 rw [List.take_succ_eq_append_getElem hl, List.any_append]
 simp
theorem br_or (a b : Bool) : br a (some true) (some b) = some (a || b) := by cases a <;> rfl
theorem br_and (a b : Bool) : br a (some b) (some false) = some (a && b) := by cases a <;> rfl
theorem diff_nil (l : List Bk) (v : Bool) (n : Nat) : diffB l [] v n ↔ covB l v n := by
 unfold diffB
 exact ⟨fun h => h.1, fun h => ⟨h, fun ⟨b, hb, _⟩ => by cases hb⟩⟩
end Go.Ma
namespace Go.Ma
open Go
theorem R_SamePrefixes_eq {a b : List Pf} (hl : a.length < 9223372036854775807) : zq1 a b = some (decide (a = b), ()) := by
 unfold zq1
 by_cases hlen : a.length = b.length
 rotate_left
 ·rw [decide_eq_false (show ¬ lenL a = lenL b by unfold lenL; omega), Bool.not_false, br_true, decide_eq_false (fun e => hlen (by rw [e]))]
 rw [decide_eq_true (show lenL a = lenL b by unfold lenL; omega), Bool.not_true, br_false]
 have hloop : loopN zq0 FUEL (((), (), (0, ()), ()), (a, b, ())) = some (if a.drop 0 = b.drop 0 then Sum.inr ((), (a, b, ())) else Sum.inl ((((false : Bool), ()), ()), (a, b, ()))) := by
  refine loop_up (step := zq0) (fun i => (((), (), ((i : Int), ()), ()), (a, b, ()))) a.length (fun i => some (if a.drop i = b.drop i then Sum.inr ((), (a, b, ())) else Sum.inl ((((false : Bool), ()), ()), (a, b, ())))) (fun rec i hi hr => ?_) (fun rec => ?_) FUEL 0 (Nat.zero_le _) (fuel_gt (by omega))
  ·obtain ⟨p, hp⟩ : ∃ e, a[i]? = some e := ⟨_, List.getElem?_eq_getElem hi⟩
   obtain ⟨q, hq⟩ : ∃ e, b[i]? = some e := ⟨_, List.getElem?_eq_getElem (by omega)⟩
   simp only [zq0]
   rw [decide_eq_true (show (i : Int) < lenL a by unfold lenL; omega), br_true, req_of (inRange_of (by omega) (by unfold lenL; omega)), geti_at hp, bind_s, req_of (inRange_of (by omega) (by unfold lenL; omega)), geti_at hq, bind_s, eqPf_eq, show ((i : Int) + 1) = ((i + 1 : Nat) : Int) by omega, req_of (i64ok_of (by omega) (by omega)), hr, drop_cons hp, drop_cons hq]
   by_cases he : p = q
   ·subst he
    rw [decide_eq_true rfl, Bool.not_true, br_false]
    by_cases hd : a.drop (i + 1) = b.drop (i + 1)
    ·rw [if_pos hd, if_pos (by rw [hd])]
    ·rw [if_neg hd, if_neg (fun e => hd (List.cons.inj e).2)]
   ·rw [decide_eq_false he, Bool.not_false, br_true, if_neg (fun e => he (List.cons.inj e).1)]
  ·simp only [zq0]
   rw [decide_eq_false (show ¬ (a.length : Int) < lenL a by unfold lenL; omega), br_false, List.drop_length, hlen, List.drop_length, if_pos rfl]
 rw [hloop, bind_s, List.drop_zero, List.drop_zero]
 by_cases he : a = b
 ·rw [if_pos he, decide_eq_true he]
  rfl
 ·rw [if_neg he, decide_eq_false he]
  rfl
theorem span_Norm_run {l : List Pf} (h : tabIn l) (hc : chkL l = 0) : span_Norm_t l = some ((shortS ((sortP l).map toB)).map ofB, 0, ()) := by
 obtain ⟨h1, h2⟩ := chkL_ok h hc
 unfold span_Norm_t
 rw [span_Right_eq h, bind_s, decide_eq_true (show (chkL l, ()).1 = 0 from hc), Bool.not_true, br_false, span_Short_run h2 (by omega), bind_s]
theorem span_Minus_run {l : List Pf} {p : Pf} (h : tabIn l) (hp : p.In) (hc : chkL l = 0) (hcp : chkP p = 0) : span_Minus_t l p = some ((shortS ((sortP ((lessB (toB p) (l.map toB)).map ofB)).map toB)).map ofB, 0, ()) := by
 obtain ⟨h1, h2⟩ := chkL_ok h hc
 unfold span_Minus_t
 rw [span_Right_eq h, bind_s, decide_eq_true (show (chkL l, ()).1 = 0 from hc), br_true, zq18 hp, bind_s, decide_eq_true (show (chkP p, ()).1 = 0 from hcp), Bool.not_true, br_false, span_Less_run h2 ⟨hp, hcp⟩ (by omega), bind_s]
def netP (n b : Nat) : Pf := ⟨⟨false, 0, n⟩, b⟩
theorem netP_in {n b : Nat} (hn : n < 1000000000) (hb : b < 1000) : (netP n b).In := ⟨⟨⟨by show (0 : Int) ≤ 0; omega, by show (0 : Int) < 18446744073709551616; omega⟩, ⟨by show (0 : Int) ≤ (n : Int); omega, by show (n : Int) < 18446744073709551616; omega⟩⟩, ⟨by show (-9223372036854775808 : Int) ≤ (b : Int); omega, by show (b : Int) < 9223372036854775808; omega⟩⟩
def sbL : List Pf := [netP 3 32, netP 0 31, netP 2 32, netP 1 32]
theorem sb_in : tabIn sbL := by
 intro p hp
 simp only [sbL, List.mem_cons, List.not_mem_nil, or_false] at hp
 rcases hp with rfl | rfl | rfl | rfl <;> exact netP_in (by omega) (by omega)
theorem sb_in1 : tabIn [netP 0 30] := by
 intro p hp
 simp only [List.mem_cons, List.not_mem_nil, or_false] at hp
 subst hp
 exact netP_in (by omega) (by omega)
theorem sb_chk : chkL sbL = 0 := by decide +kernel
theorem sb_chk1 : chkL [netP 0 30] = 0 := by decide +kernel
theorem sb_norm : (shortS ((sortP sbL).map toB)).map ofB = [netP 0 30] := by decide +kernel
theorem sb_has : hasL [netP 0 30] ⟨false, 0, 3⟩ = (true, 0, ()) := by decide +kernel
theorem sb_minus : (shortS ((sortP ((lessB (toB (netP 1 32)) ([netP 0 30].map toB)).map ofB)).map toB)).map ofB = [netP 0 32, netP 2 31] := by decide +kernel
theorem sb_same1 : decide ([netP 0 30] = [netP 0 30]) = true := decide_eq_true rfl
theorem sb_same2 : decide ([netP 0 32, netP 2 31] = [netP 0 32, netP 2 31]) = true := decide_eq_true rfl
theorem spanBegun_eq : law_spanBegun_t = some (true, ()) := by
 have n1 : law_net_t 3 32 = some (netP 3 32, ()) := rfl
 have n2 : law_net_t 0 31 = some (netP 0 31, ()) := rfl
 have n3 : law_net_t 2 32 = some (netP 2 32, ()) := rfl
 have n4 : law_net_t 1 32 = some (netP 1 32, ()) := rfl
 have n5 : law_net_t 0 30 = some (netP 0 30, ()) := rfl
 have n6 : law_net_t 0 32 = some (netP 0 32, ()) := rfl
 have n7 : law_net_t 2 31 = some (netP 2 31, ()) := rfl
 have a3 : law_v4_t 3 = some (⟨false, 0, 3⟩, ()) := rfl
 have hn : span_Norm_t ([netP 3 32, netP 0 31, netP 2 32, netP 1 32] : List Pf) = some ([netP 0 30], 0, ()) := by
  have := span_Norm_run sb_in sb_chk
  rw [sb_norm] at this
  exact this
 have hh : span_Has_t [netP 0 30] ⟨false, 0, 3⟩ = some (true, 0, ()) := by rw [span_Has_eq sb_in1 ⟨⟨by decide, by decide⟩, ⟨by decide, by decide⟩⟩, sb_has]
 have hm : span_Minus_t [netP 0 30] (netP 1 32) = some ([netP 0 32, netP 2 31], 0, ()) := by
  have := span_Minus_run sb_in1 (netP_in (n := 1) (b := 32) (by omega) (by omega)) sb_chk1 (by decide +kernel)
  rw [sb_minus] at this
  exact this
 have s1 : zq1 [netP 0 30] ([netP 0 30] : List Pf) = some (true, ()) := by rw [R_SamePrefixes_eq (by simp), sb_same1]
 have s2 : zq1 [netP 0 32, netP 2 31] ([netP 0 32, netP 2 31] : List Pf) = some (true, ()) := by rw [R_SamePrefixes_eq (by simp), sb_same2]
 unfold law_spanBegun_t
 simp only [n1, n2, n3, n4, bind_s, hn, a3, hh, hm, n5, n6, n7, s1, s2, decide_true, br_true]
end Go.Ma
namespace Go.Ma
open Go
theorem less_NormB {l : List Pf} (h : ∀ q ∈ l, rtP q) (b : Bk) : NormB (normC (diffB (l.map toB) [b])) := by
 have e := less_norm (lessB_right h b) (p := b) (l := l.map toB) (toB_ofB_map (lessB_fit _ (fits_of h)))
 rw [← e]
 exact (short_ok (sortP_rise (lessB_right h b))).1
theorem one_NormB (b : Bk) : NormB [b] := ⟨List.pairwise_singleton _ _, fun x hx y hy => by
  simp only [List.mem_singleton] at hx hy
  subst hx hy
  rintro ⟨_, _, _, h4⟩
  omega⟩
theorem nP_one {p : Pf} (h : rtP p) : nP (diffB [toB p] []) = [p] := by
 rw [show nP (diffB [toB p] []) = nP (covB [toB p]) from nP_congr fun v n _ => diff_nil _ v n]
 unfold nP
 rw [← one_norm (toB_fit h)]
 show [ofB (toB p)] = [p]
 rw [ofB_toB h]
theorem diff_step (b u : Bk) (U : List Bk) : normC (diffB (normC (diffB [b] U)) [u]) = normC (diffB [b] (U ++ [u])) :=
 normC_congr fun v n hn => by
  unfold diffB
  rw [normC_cov hn, covB_app]
  constructor
  ·rintro ⟨⟨g1, g2⟩, g3⟩
   exact ⟨g1, fun g => g.elim g2 g3⟩
  ·rintro ⟨g1, g2⟩
   exact ⟨⟨g1, fun g => g2 (.inl g)⟩, fun g => g2 (.inr g)⟩
theorem left_sizes {p : Pf} (h : rtP p) {used : List Pf} (hu : ∀ q ∈ used, rtP q) : ∀ i, i ≤ used.length → NormB (normC (diffB [toB p] ((used.take i).map toB))) ∧ (nP (diffB [toB p] ((used.take i).map toB))).length ≤ 1 + 128 * i
 | 0, _ => by
  have e := nP_one h
  refine ⟨?_, by rw [List.take_zero]; show (nP (diffB [toB p] [])).length ≤ _; rw [e]; simp⟩
  rw [List.take_zero]
  have e2 : normC (diffB [toB p] []) = [toB p] := by
   rw [show normC (diffB [toB p] []) = normC (covB [toB p]) from normC_congr fun v n _ => diff_nil _ v n]
   exact (one_norm (toB_fit h)).symm
  show NormB (normC (diffB [toB p] []))
  rw [e2]
  exact one_NormB _
 | i + 1, hi => by
  obtain ⟨g1, g2⟩ := left_sizes h hu i (by omega)
  have hq : used[i]? = some used[i] := List.getElem?_eq_getElem (by omega)
  obtain ⟨X, hX⟩ : ∃ X, X = diffB [toB p] ((used.take i).map toB) := ⟨_, rfl⟩
  rw [← hX] at g1 g2
  have hr := nP_right X
  have e : normC (diffB ((nP X).map toB) [toB used[i]]) = normC (diffB [toB p] ((used.take (i + 1)).map toB)) := by
   rw [nP_toB, hX, diff_step, List.take_succ_eq_append_getElem (by omega : i < used.length), List.map_append]
   rfl
  refine ⟨by rw [← e]; exact less_NormB hr _, ?_⟩
  have e2 : nP (diffB [toB p] ((used.take (i + 1)).map toB)) = nP (diffB ((nP X).map toB) [toB used[i]]) := congrArg (List.map ofB) e.symm
  rw [e2]
  have k1 := less_size hr (toB used[i])
  have k2 := lessB_norm (toB used[i]) ((nP X).map toB) (by rw [nP_toB]; exact g1.asc) (fun b hb => fit_f (fits_of hr b hb))
  rw [List.length_map] at k2
  omega
theorem pick_left_eq {p : Pf} (h : rtP p) {used : List Pf} (hu : ∀ q ∈ used, rtP q) (hl : used.length ≤ 1000) : pick_left_t p used = some (nP (diffB [toB p] (used.map toB)), ()) := by
 have hloop : loopN pick_left_L3 FUEL (((), (), (lenL used, ()), (0, ()), ()), (used, ([p] : List Pf), ())) = some (((), ()), (used, nP (diffB [toB p] (used.map toB)), ())) := by
  have := loop_up (step := pick_left_L3) (fun i => (((), (), (lenL used, ()), ((i : Int), ()), ()), (used, nP (diffB [toB p] ((used.take i).map toB)), ()))) used.length (fun _ => some (((), ()), (used, nP (diffB [toB p] (used.map toB)), ()))) (fun rec i hi hr => ?_) (fun rec => ?_) FUEL 0 (Nat.zero_le _) (fuel_gt (by omega))
  ·rw [List.take_zero, show nP (diffB [toB p] (([] : List Pf).map toB)) = [p] from nP_one h] at this
   exact this
  ·obtain ⟨q, hq⟩ : ∃ e, used[i]? = some e := ⟨_, List.getElem?_eq_getElem hi⟩
   have rq := hu q (List.mem_of_getElem? hq)
   obtain ⟨_, g2⟩ := left_sizes h hu i (by omega)
   simp only [pick_left_L3]
   rw [decide_eq_true (show (i : Int) < lenL used by unfold lenL; omega), br_true, req_of (inRange_of (by omega) (by unfold lenL; omega)), geti_at hq, bind_s, span_Less_eq (nP_right _) rq (by omega), bind_s, show ((i : Int) + 1) = ((i + 1 : Nat) : Int) by omega, req_of (i64ok_of (by omega) (by omega)), ← hr]
   obtain ⟨hi', rfl⟩ := List.getElem?_eq_some_iff.1 hq
   have e : nP (diffB ((nP (diffB [toB p] ((used.take i).map toB))).map toB) [toB used[i]]) = nP (diffB [toB p] ((used.take (i + 1)).map toB)) := by
    unfold nP
    rw [show (List.map ofB (normC (diffB [toB p] (List.map toB (List.take i used))))).map toB = normC (diffB [toB p] (List.map toB (List.take i used))) from nP_toB _, diff_step, List.take_succ_eq_append_getElem hi', List.map_append]
    rfl
   rw [e]
  ·simp only [pick_left_L3]
   rw [decide_eq_false (show ¬ (used.length : Int) < lenL used by unfold lenL; omega), br_false, List.take_length]
 unfold pick_left_t
 rw [hloop, bind_s]
def rdyP (p : Pf) (used : List Pf) : Int := if chkP p ≠ 0 then chkP p else chkL used
theorem pick_ready_eq {p : Pf} (hp : p.In) {used : List Pf} (hu : tabIn used) : pick_ready_t p used = some (rdyP p used, ()) := by
 unfold pick_ready_t rdyP
 rw [zq18 hp, bind_s]
 by_cases hc : chkP p = 0
 ·rw [decide_eq_true (show (chkP p, ()).1 = 0 from hc), Bool.not_true, br_false, if_neg (fun hh => hh hc), span_Right_eq hu, bind_s]
 ·rw [decide_eq_false (show ¬ (chkP p, ()).1 = 0 from hc), Bool.not_false, br_true, if_pos hc]
theorem rdyP_ok {p : Pf} (hp : p.In) {used : List Pf} (hu : tabIn used) (h : rdyP p used = 0) : rtP p ∧ used.length ≤ 12 ∧ ∀ q ∈ used, rtP q := by
 unfold rdyP at h
 split at h
 ·rename_i h1; exact absurd h h1
 ·rename_i h1
  exact ⟨⟨hp, Decidable.not_not.1 h1⟩, chkL_ok hu h⟩
noncomputable def freeT (p : Pf) (used : List Pf) : List Pf × Int × Unit := if rdyP p used ≠ 0 then ([], rdyP p used, ()) else (nP (diffB [toB p] (used.map toB)), 0, ())
theorem pick_Free_eq {p : Pf} (hp : p.In) {used : List Pf} (hu : tabIn used) : pick_Free_t p used = some (freeT p used) := by
 unfold pick_Free_t freeT
 rw [pick_ready_eq hp hu, bind_s]
 by_cases hc : rdyP p used = 0
 ·obtain ⟨h1, h2, h3⟩ := rdyP_ok hp hu hc
  rw [decide_eq_true (show (rdyP p used, ()).1 = 0 from hc), Bool.not_true, br_false, if_neg (fun hh => hh hc), pick_left_eq h1 h3 (by omega), bind_s]
 ·rw [decide_eq_false (show ¬ (rdyP p used, ()).1 = 0 from hc), Bool.not_false, br_true, if_pos hc]
def pfZ : Pf := ⟨⟨false, 0, 0⟩, 0⟩
def cutFirst (l : List Pf) (bits : Int) : Option Pf := (l.find? fun f => decide (f.bits ≤ bits)).map fun f => ⟨f.ad, bits⟩
def firstOut (o : Option Pf) : Pf × Int × Unit := match o with | some q => (q, 0, ()) | none => (pfZ, 8, ())
def rdyF (p : Pf) (used : List Pf) (bits : Int) : Int := if rdyP p used ≠ 0 then rdyP p used else if bits < p.bits ∨ (wid p.ad.v6 : Nat) < bits then 3 else 0
noncomputable def firstT (p : Pf) (used : List Pf) (bits : Int) : Pf × Int × Unit := if rdyF p used bits ≠ 0 then (pfZ, rdyF p used bits, ()) else firstOut (cutFirst (nP (diffB [toB p] (used.map toB))) bits)
theorem find_firstF {α : Type} (q : α → Bool) (l : List α) : (match firstF q l with | some i => l[i]? | none => none) = l.find? q := by
 induction l with
 | nil => rfl
 | cons x r ih =>
  unfold firstF
  rw [List.find?_cons]
  cases q x
  ·simp only [Bool.false_eq_true, if_false]
   rw [← ih]
   cases firstF q r <;> rfl
  ·rfl
def idxOut (used l : List Pf) (p : Pf) (bits : Int) (o : Option Nat) : ((((Int × Unit) × Unit) × (List Pf × (Pf × Unit) × (Int × Unit) × (Pf × Unit) × List Pf × Unit)) ⊕ (Unit × (List Pf × (Pf × Unit) × (Int × Unit) × (Pf × Unit) × List Pf × Unit))) :=
 match o with | some i => Sum.inl ((((i : Int), ()), ()), (used, (p, ()), (bits, ()), (pfZ, ()), l, ())) | none => Sum.inr ((), (used, (p, ()), (bits, ()), (pfZ, ()), l, ()))
theorem pick_First_eq {p : Pf} (hp : p.In) {used : List Pf} (hu : tabIn used) (bits : Int) : zq16 p used bits = some (firstT p used bits) := by
 unfold zq16 firstT rdyF
 rw [pick_ready_eq hp hu, bind_s]
 by_cases hc : rdyP p used = 0
 rotate_left
 ·rw [decide_eq_false (show ¬ (rdyP p used, ()).1 = 0 from hc), br_false, bind_s, br_false, Bool.not_false, br_true]
  simp only [if_pos hc]
  rfl
 obtain ⟨h1, h2, h3⟩ := rdyP_ok hp hu hc
 rw [decide_eq_true (show (rdyP p used, ()).1 = 0 from hc), br_true, prefix_Wide_eq, bind_s, br_or, bind_s, Bool.not_true]
 simp only [if_neg (show ¬ rdyP p used ≠ 0 from fun hh => hh hc)]
 by_cases hb : bits < p.bits ∨ ((wid p.ad.v6 : Nat) : Int) < bits
 ·have e : (decide (bits < p.bits) || decide (bits > ((wid p.ad.v6 : Nat) : Int))) = true := by
   rw [Bool.or_eq_true, decide_eq_true_iff, decide_eq_true_iff]; exact hb
  rw [e, br_true, if_pos hb, if_pos (by decide)]
  rfl
 have e : (decide (bits < p.bits) || decide (bits > ((wid p.ad.v6 : Nat) : Int))) = false := by
  rw [Bool.or_eq_false_iff, decide_eq_false_iff_not, decide_eq_false_iff_not]; exact ⟨fun g => hb (.inl g), fun g => hb (.inr g)⟩
 rw [e, br_false, br_false, if_neg hb, if_neg (by decide), pick_left_eq h1 h3 (by omega), bind_s]
 simp only
 have hsz := (left_sizes h1 h3 used.length (Nat.le_refl _)).2
 rw [List.take_length] at hsz
 generalize nP (diffB [toB p] (used.map toB)) = l at hsz ⊢
 have hll : l.length < 9223372036854775808 := by omega
 have hloop := idx_loop (step := zq12) l (fun f => decide (f.bits ≤ bits)) (fun i => (((), (), (lenL l, ()), ((i : Int), ()), ()), (used, (p, ()), (bits, ()), (pfZ, ()), l, ()))) (idxOut used l p bits) hll (fun rec i q hq hi => by
   simp only [zq12]
   rw [decide_eq_true (show (i : Int) < lenL l by unfold lenL; omega), br_true, req_of (inRange_of (by omega) (by unfold lenL; omega)), geti_at hq, bind_s]
   unfold pick_First_1_t
   rw [bind_s, show ((i : Int) + 1) = ((i + 1 : Nat) : Int) by omega, req_of (i64ok_of (by omega) (by omega))]
   cases decide (q.bits ≤ bits) <;> rfl) (fun rec => by
   simp only [zq12]
   rw [decide_eq_false (show ¬ (l.length : Int) < lenL l by unfold lenL; omega), br_false]
   rfl)
 have hloop' : loopN zq12 FUEL (((), (), (lenL l, ()), (0, ()), ()), (used, (p, ()), (bits, ()), ((⟨(⟨false, 0, 0⟩ : Ad), 0⟩ : Pf), ()), l, ())) = some (idxOut used l p bits (firstF (fun f => decide (f.bits ≤ bits)) l)) := hloop
 rw [hloop', bind_s]
 have hf := find_firstF (fun f : Pf => decide (f.bits ≤ bits)) l
 unfold cutFirst
 cases hx : firstF (fun f : Pf => decide (f.bits ≤ bits)) l with
 | none =>
  rw [hx] at hf
  rw [← hf]
  rfl
 | some i =>
  rw [hx] at hf
  have hi := firstF_lt hx
  obtain ⟨q, hq⟩ : ∃ e, l[i]? = some e := ⟨_, List.getElem?_eq_getElem hi⟩
  have hq' : l.find? (fun f : Pf => decide (f.bits ≤ bits)) = some q := by rw [← hf]; exact hq
  rw [hq']
  have r1 : inRange (i : Int) (lenL l) = true := inRange_of (by omega) (by unfold lenL; omega)
  simp only [idxOut, sumC]
  rw [decide_eq_false (show ¬ (i : Int) < 0 by omega), br_false, req_of r1, req_of r1, geti_at hq, bind_s]
  rfl
theorem part_B (v : Bool) {t F : Nat} (ht : t ≤ F) (K : Nat) : (⟨(ofB ⟨v, F, K⟩).ad, ((wid v - t : Nat) : Int)⟩ : Pf) = ofB ⟨v, t, K * 2 ^ (F - t)⟩ := by
 unfold ofB
 simp only
 rw [Nat.mul_assoc, ← Nat.pow_add, show F - t + t = F by omega]
end Go.Ma
namespace Go.Ma
open Go
theorem less_run {l : List Pf} (h : ∀ q ∈ l, rtP q) (b : Bk) : nP (diffB (l.map toB) [b]) = (shortS ((sortP ((lessB b (l.map toB)).map ofB)).map toB)).map ofB := by
 have e := less_norm (lessB_right h b) (p := b) (l := l.map toB) (toB_ofB_map (lessB_fit _ (fits_of h)))
 unfold nP
 rw [← e]
theorem netP_rt {n b : Nat} (hn : n < 1000000000) (hb : b < 1000) (hc : chkP (netP n b) = 0) : rtP (netP n b) := ⟨netP_in hn hb, hc⟩
theorem pb_less1 : (shortS ((sortP ((lessB (toB (netP 1 32)) ([netP 0 29].map toB)).map ofB)).map toB)).map ofB = [netP 0 32, netP 2 31, netP 4 30] := by decide +kernel
theorem pb_less2 : (shortS ((sortP ((lessB (toB (netP 4 31)) ([netP 0 32, netP 2 31, netP 4 30].map toB)).map ofB)).map toB)).map ofB = [netP 0 32, netP 2 31, netP 6 31] := by decide +kernel
theorem pb_in : (netP 0 29).In ∧ tabIn [netP 1 32, netP 4 31] := by
 refine ⟨netP_in (by omega) (by omega), fun p hp => ?_⟩
 simp only [List.mem_cons, List.not_mem_nil, or_false] at hp
 rcases hp with rfl | rfl <;> exact netP_in (by omega) (by omega)
theorem pb_left : nP (diffB [toB (netP 0 29)] ([netP 1 32, netP 4 31].map toB)) = [netP 0 32, netP 2 31, netP 6 31] := by
 have r0 : ∀ q ∈ [netP 0 29], rtP q := fun q hq => by
  simp only [List.mem_cons, List.not_mem_nil, or_false] at hq
  subst hq
  exact netP_rt (by omega) (by omega) (by decide +kernel)
 have r1 : ∀ q ∈ [netP 0 32, netP 2 31, netP 4 30], rtP q := fun q hq => by
  simp only [List.mem_cons, List.not_mem_nil, or_false] at hq
  rcases hq with rfl | rfl | rfl <;> exact netP_rt (by omega) (by omega) (by decide +kernel)
 have e1 := less_run r0 (toB (netP 1 32))
 rw [pb_less1] at e1
 have e2 := less_run r1 (toB (netP 4 31))
 rw [pb_less2] at e2
 have e3 : normC (diffB [toB (netP 0 29)] [toB (netP 1 32)]) = [netP 0 32, netP 2 31, netP 4 30].map toB := by
  rw [← e1]
  exact (nP_toB _).symm
 have e4 := diff_step (toB (netP 0 29)) (toB (netP 4 31)) [toB (netP 1 32)]
 rw [e3] at e4
 have e5 : nP (diffB [toB (netP 0 29)] ([netP 1 32, netP 4 31].map toB)) = nP (diffB ([netP 0 32, netP 2 31, netP 4 30].map toB) [toB (netP 4 31)]) := congrArg (List.map ofB) e4.symm
 rw [e5, e2]
theorem pb_rdy : rdyP (netP 0 29) [netP 1 32, netP 4 31] = 0 := by decide +kernel
theorem pb_rdy1 : rdyF (netP 0 29) [netP 1 32, netP 4 31] 31 = 0 := by decide +kernel
theorem pb_rdy0 : rdyF (netP 0 29) [netP 1 32, netP 4 31] 30 = 0 := by decide +kernel
theorem pb_cut1 : cutFirst [netP 0 32, netP 2 31, netP 6 31] 31 = some (netP 2 31) := by decide +kernel
theorem pb_cut0 : cutFirst [netP 0 32, netP 2 31, netP 6 31] 30 = none := by decide +kernel
theorem pickBegun_eq : law_pickBegun_t = some (true, ()) := by
 have n1 : law_net_t 0 29 = some (netP 0 29, ()) := rfl
 have n2 : law_net_t 1 32 = some (netP 1 32, ()) := rfl
 have n3 : law_net_t 4 31 = some (netP 4 31, ()) := rfl
 have n4 : law_net_t 0 32 = some (netP 0 32, ()) := rfl
 have n5 : law_net_t 2 31 = some (netP 2 31, ()) := rfl
 have n6 : law_net_t 6 31 = some (netP 6 31, ()) := rfl
 have f1 : pick_Free_t (netP 0 29) ([netP 1 32, netP 4 31] : List Pf) = some ([netP 0 32, netP 2 31, netP 6 31], 0, ()) := by
  rw [pick_Free_eq pb_in.1 pb_in.2]
  unfold freeT
  rw [if_neg (fun hh => hh pb_rdy), pb_left]
 have f2 : zq16 (netP 0 29) ([netP 1 32, netP 4 31] : List Pf) 31 = some (netP 2 31, 0, ()) := by
  rw [pick_First_eq pb_in.1 pb_in.2]
  unfold firstT
  rw [if_neg (fun hh => hh pb_rdy1), pb_left, pb_cut1]
  rfl
 have f3 : zq16 (netP 0 29) ([netP 1 32, netP 4 31] : List Pf) 30 = some (pfZ, 8, ()) := by
  rw [pick_First_eq pb_in.1 pb_in.2]
  unfold firstT
  rw [if_neg (fun hh => hh pb_rdy0), pb_left, pb_cut0]
  rfl
 have s1 : zq1 [netP 0 32, netP 2 31, netP 6 31] ([netP 0 32, netP 2 31, netP 6 31] : List Pf) = some (true, ()) := by rw [R_SamePrefixes_eq (by simp), decide_eq_true rfl]
 have s2 : eqPf (netP 2 31) (netP 2 31) = true := by rw [eqPf_eq]; exact decide_eq_true rfl
 unfold law_pickBegun_t
 simp only [n1, n2, n3, bind_s, f1, f2, f3, n4, n5, n6, s1, s2, decide_true, br_true]
end Go.Ma
namespace Go.Ma
open Go
theorem normC_NormB (S : Bool → Nat → Prop) : NormB (normC S) := by
 have h := nP_right S
 have e := short_P h
 rw [nP_toB, normC_congr (fun v n hn => normC_cov hn)] at e
 rw [← e]
 exact (short_ok (sortP_rise h)).1
theorem nP_idem (S : Bool → Nat → Prop) : nP (covB ((nP S).map toB)) = nP S := by
 rw [nP_toB]
 exact nP_congr fun v n hn => normC_cov hn
theorem nP_len_le {l : List Pf} (h : ∀ p ∈ l, rtP p) : (nP (covB (l.map toB))).length ≤ l.length := by
 have e := short_P h
 unfold nP
 rw [List.length_map, ← e]
 have := short_len ((sortP l).map toB)
 rwa [List.length_map, sortP_len] at this
theorem any_holds {l : List Pf} (h : ∀ p ∈ l, rtP p) {a : Ad} (ha : a.In) : l.any (fun p => holds p a) = true ↔ covB (l.map toB) a.v6 a.num := by
 rw [List.any_eq_true]
 constructor
 ·rintro ⟨p, hp, hh⟩
  exact ⟨toB p, List.mem_map_of_mem hp, (holds_toB (h p hp) ha).1 hh⟩
 ·rintro ⟨b, hb, hh⟩
  obtain ⟨p, hp, rfl⟩ := List.mem_map.1 hb
  exact ⟨p, hp, (holds_toB (h p hp) ha).2 hh⟩
theorem num_ltW {a : Ad} (ha : a.In) (hc : chkA a = 0) : a.num < 2 ^ wid a.v6 := right_num a ⟨ha.wf, hc⟩
theorem any_nP {S : Bool → Nat → Prop} {a : Ad} (ha : a.In) (hc : chkA a = 0) : (nP S).any (fun p => holds p a) = true ↔ S a.v6 a.num := by
 rw [any_holds (nP_right S) ha, nP_toB, normC_cov (num_ltW ha hc)]
theorem nP_in (S : Bool → Nat → Prop) : tabIn (nP S) := fun p hp => (nP_right S p hp).1
theorem nP_chk {S : Bool → Nat → Prop} (h : (nP S).length ≤ 12) : chkL (nP S) = 0 := chkL_of h fun p hp => (nP_right S p hp).2
theorem pair_of {l : List Bk} (hn : NormB l) {k i : Nat} (hki : k < i) {a b : Bk} (ha : l[k]? = some a) (hb : l[i]? = some b) : befB a b ∧ ¬ sib a b := by
 obtain ⟨h1, rfl⟩ := List.getElem?_eq_some_iff.1 ha
 obtain ⟨h2, rfl⟩ := List.getElem?_eq_some_iff.1 hb
 exact ⟨List.pairwise_iff_getElem.1 hn.asc k i h1 h2 hki, hn.nos _ (List.getElem_mem _) _ (List.getElem_mem _)⟩
theorem bef_apart {a b : Bk} (h : befB a b) : overBk a b = false ∧ overBk b a = false := by
 have la := a.lo_lt_hi
 have lb := b.lo_lt_hi
 constructor
 ·cases hx : overBk a b
  ·rfl
  ·exfalso
   obtain ⟨h1, h2, h3⟩ := overBk_range hx
   rcases h with ⟨g1, g2⟩ | ⟨g1, g2⟩
   ·rw [g1, g2] at h1; cases h1
   ·omega
 ·cases hx : overBk b a
  ·rfl
  ·exfalso
   obtain ⟨h1, h2, h3⟩ := overBk_range hx
   rcases h with ⟨g1, g2⟩ | ⟨g1, g2⟩
   ·rw [g1, g2] at h1; cases h1
   ·omega
theorem bef_ahead {p q : Pf} (hp : rtP p) (hq : rtP q) (h : befB (toB p) (toB q)) : aheadA p.ad q.ad = true := by
 have lp := toB_lo hp
 have lq := toB_lo hq
 have hl := (toB p).lo_lt_hi
 rw [← ord_neg hp.1.1 hq.1.1, decide_eq_true_iff]
 have hv1 : (toB p).v = p.ad.v6 := rfl
 have hv2 : (toB q).v = q.ad.v6 := rfl
 have hd := ord_neg hp.1.1 hq.1.1
 have : aheadA p.ad q.ad = true := by
  unfold aheadA
  rcases h with ⟨g1, g2⟩ | ⟨g1, g2⟩
  ·rw [hv1] at g1
   rw [hv2] at g2
   simp [g1, g2]
  ·rw [hv1, hv2] at g1
   have : p.ad.num < q.ad.num := by omega
   simp [g1, this]
 rw [this] at hd
 exact of_decide_eq_true hd
theorem at_nP {S : Bool → Nat → Prop} {i : Nat} {p : Pf} (h : (nP S)[i]? = some p) : (normC S)[i]? = some (toB p) := by
 have := congrArg (fun l => l[i]?) (nP_toB S)
 simp only [List.getElem?_map, h, Option.map_some] at this
 exact this.symm
end Go.Ma
namespace Go.Ma
open Go
theorem bef_disj {a b : Bk} (h : befB a b) {v : Bool} {n : Nat} (ha : a.has v n) : ¬ b.has v n := by
 rintro ⟨b1, b2, b3⟩
 obtain ⟨a1, a2, a3⟩ := ha
 rcases h with ⟨g1, g2⟩ | ⟨g1, g2⟩
 ·rw [g1] at a1
  rw [g2, ← a1] at b1
  cases b1
 ·omega
theorem two_disj {l : List Bk} (hn : NormB l) {i j : Nat} (hi : i < l.length) (hj : j < l.length) (hij : j ≠ i) {v : Bool} {n : Nat} (h : (l[j]).has v n) : ¬ (l[i]).has v n := by
 rcases Nat.lt_or_gt_of_ne hij with h1 | h1
 ·exact bef_disj (List.pairwise_iff_getElem.1 hn.asc j i hj hi h1) h
 ·exact fun h2 => bef_disj (List.pairwise_iff_getElem.1 hn.asc i j hi hj h1) h2 h
theorem norm_erase {l : List Bk} (hn : NormB l) (hf : ∀ b ∈ l, fitB b) {i : Nat} (hi : i < l.length) : normC (diffB l [l[i]]) = l.eraseIdx i := by
 refine (norm_two (hn.sub (List.eraseIdx_sublist l i)) (fun b hb => hf b (List.mem_of_mem_eraseIdx hb)) fun v n _ => ?_).symm
 unfold diffB
 rw [covB_one]
 constructor
 ·rintro ⟨b, hb, hh⟩
  obtain ⟨j, hj, hji, rfl⟩ := List.mem_eraseIdx_iff_getElem.1 hb
  exact ⟨⟨_, List.getElem_mem _, hh⟩, two_disj hn hi hj hji hh⟩
 ·rintro ⟨⟨b, hb, hh⟩, h2⟩
  obtain ⟨j, hj, rfl⟩ := List.getElem_of_mem hb
  by_cases hji : j = i
  ·subst hji
   exact absurd hh h2
  ·exact ⟨_, List.mem_eraseIdx_iff_getElem.2 ⟨j, hj, hji, rfl⟩, hh⟩
theorem erase_len {S : Bool → Nat → Prop} {i : Nat} {p : Pf} (h : (nP S)[i]? = some p) : (nP (diffB ((nP S).map toB) [toB p])).length = (nP S).length - 1 := by
 have hb := at_nP h
 obtain ⟨hi, e⟩ := List.getElem?_eq_some_iff.1 hb
 unfold nP
 rw [List.length_map, List.length_map, show (List.map ofB (normC S)).map toB = normC S from nP_toB S, ← e, norm_erase (normC_NormB S) normC_fit hi, List.length_eraseIdx, if_pos hi]
theorem put_back {L : List Bk} {p : Bk} (hp : ∀ v n, p.has v n → covB L v n) : nP (covB ((nP (diffB L [p])).map toB ++ [p])) = nP (covB L) :=
 nP_congr fun v n hn => by
  rw [covB_app, nP_toB, normC_cov hn, covB_one]
  unfold diffB
  rw [covB_one]
  constructor
  ·rintro (h | h)
   ·exact h.1
   ·exact hp v n h
  ·intro h
   by_cases h2 : p.has v n
   ·exact .inr h2
   ·exact .inl ⟨h, h2⟩
theorem over_cov {L : List Bk} {b p : Bk} (hb : b ∈ normC (covB L)) (ho : overBk b p = true) (hp : fitB p) : ∀ v n, p.has v n → covB L v n := fun v n hn => by
 have h2 : n < 2 ^ wid v := by
  obtain ⟨a1, a2, a3⟩ := hn
  rw [← a1]
  exact Nat.lt_of_lt_of_le a3 hp.2
 exact (normC_cov h2).1 ⟨b, hb, over_has ho hn⟩
theorem nP_perm {l m : List Pf} (h : l.Perm m) : nP (covB (l.map toB)) = nP (covB (m.map toB)) := nP_congr fun v n _ => covB_perm (h.map toB) v n
theorem whole_no {p q : Pf} (hp : rtP p) (hq : rtP q) (hs : ¬ sib (toB p) (toB q)) : zq22 p q = some (pfZ, 4, ()) := by
 obtain ⟨w, e1, _⟩ := join_eq hp hq
 unfold zq22
 rw [prefix_two_eq hp.1 hq.1, bind_s]
 simp only [hp.2, hq.2, ne_eq, not_true, if_false, decide_true, Bool.not_true, br_false, prefix_Joined_eq, e1, bind_s, decide_eq_false hs, Bool.not_false, br_true]
 rfl
theorem less_right' {a b : Ad} (ha : a.In) (hb : b.In) (ca : chkA a = 0) (cb : chkA b = 0) : zq2 a b = some (aheadA a b, 0, ()) := by
 rw [addr_Less_eq]
 unfold lessA
 rw [if_neg (fun h => h ca), if_neg (fun h => h cb), ord_neg ha hb]
end Go.Ma
namespace Go.Ma
open Go
theorem cut_firstB {p : Pf} (hp : rtP p) {U : List Bk} {bits : Int} (h1 : p.bits ≤ bits) (h2 : bits ≤ (wid p.ad.v6 : Nat)) :
  cutFirst (nP (diffB [toB p] U)) bits = (firstB U p.ad.v6 (wid p.ad.v6 - bits.toNat) (toB p).f (toB p).k).map ofB := by
 obtain ⟨b0, b1⟩ := chkP_bits hp.2
 have hf := toB_fit hp
 obtain ⟨t, ht⟩ : ∃ t, t = wid p.ad.v6 - bits.toNat := ⟨_, rfl⟩
 have hbt : bits = ((wid p.ad.v6 - t : Nat) : Int) := by omega
 have htF : t ≤ (toB p).f := by
  show t ≤ wid p.ad.v6 - p.bits.toNat
  omega
 rw [← ht, firstB_canon _ _ htF]
 have hw : normC (diffB [toB p] U) = canon p.ad.v6 (fun n => ¬ covB U p.ad.v6 n) (toB p).f (toB p).k := by
  rw [norm_within hf (fun v n hd => covB_one.1 hd.1)]
  refine canon_congr fun n g1 g2 => ?_
  unfold diffB
  exact ⟨fun hh => hh.2, fun hh => ⟨covB_one.2 ⟨rfl, g1, g2⟩, hh⟩⟩
 unfold cutFirst nP
 rw [hw]
 have hall : ∀ b ∈ canon p.ad.v6 (fun n => ¬ covB U p.ad.v6 n) (toB p).f (toB p).k, b.v = p.ad.v6 ∧ b.f ≤ wid p.ad.v6 := fun b hb => ⟨canon_v hb, Nat.le_trans (canon_f hb) hf.1⟩
 generalize canon p.ad.v6 (fun n => ¬ covB U p.ad.v6 n) (toB p).f (toB p).k = X at hall ⊢
 clear hw
 induction X with
 | nil => rfl
 | cons x r ih =>
  obtain ⟨xv, xf⟩ := hall x List.mem_cons_self
  have ih' := ih fun b hb => hall b (List.mem_cons_of_mem _ hb)
  rw [List.map_cons, List.find?_cons, List.find?_cons]
  have hd : decide (t ≤ x.f) = decide ((ofB x).bits ≤ bits) := by
   rw [decide_eq_decide]
   show t ≤ x.f ↔ ((wid x.v - x.f : Nat) : Int) ≤ bits
   rw [xv]
   omega
  rw [hd]
  by_cases hx : (ofB x).bits ≤ bits
  ·rw [decide_eq_true hx]
   have htx : t ≤ x.f := decide_eq_true_iff.1 (hd.trans (decide_eq_true hx))
   have := part_B p.ad.v6 htx x.k
   rw [← hbt, show (⟨p.ad.v6, x.f, x.k⟩ : Bk) = x by rw [← xv]] at this
   simp only [Option.map_some, partB]
   rw [this]
  ·rw [decide_eq_false hx]
   exact ih'
def freeB (U : List Bk) (b : Bk) : Prop := ∀ u ∈ U, meetBk u b = false
theorem meet_sub {u a b : Bk} (h : meetBk u a = false) (ho : overBk a b = true) : meetBk u b = false := by
 cases hx : meetBk u b
 ·rfl
 ·exfalso
  obtain ⟨v, n, h1, h2⟩ := meetBk_iff.1 hx
  rw [meetBk_iff.2 ⟨v, n, h1, over_has ho h2⟩] at h
  cases h
theorem over_meet {u a b : Bk} (h : overBk u a = true) (ho : overBk a b = true) : meetBk u b = true := meetBk_iff.2 ⟨b.v, b.lo, over_has h (over_has ho b.has_lo), b.has_lo⟩
theorem in_over {v : Bool} {F K t j : Nat} (ht : t ≤ F) (h : j / 2 ^ (F - t) = K) : overBk ⟨v, F, K⟩ ⟨v, t, j⟩ = true := overBk_iff.2 ⟨rfl, ht, h⟩
theorem half_div {F K t j : Nat} (ht : t ≤ F) : j / 2 ^ (F + 1 - t) = K ↔ (j / 2 ^ (F - t) = 2 * K ∨ j / 2 ^ (F - t) = 2 * K + 1) := by
 rw [show F + 1 - t = (F - t) + 1 by omega, Nat.pow_succ, ← Nat.div_div_eq_div_mul]
 omega
theorem first_least {U : List Bk} {v : Bool} {t : Nat} : ∀ (F K : Nat), t ≤ F →
  (∀ X, firstB U v t F K = some X → X.v = v ∧ X.f = t ∧ X.k / 2 ^ (F - t) = K ∧ freeB U X ∧ ∀ j, j / 2 ^ (F - t) = K → freeB U ⟨v, t, j⟩ → X.k ≤ j) ∧
  (firstB U v t F K = none → ∀ j, j / 2 ^ (F - t) = K → ¬ freeB U ⟨v, t, j⟩)
 | 0, K, ht => by
  have h0 : t = 0 := by omega
  subst h0
  unfold firstB
  by_cases h1 : U.any (fun o => overBk o ⟨v, 0, K⟩) = true
  ·rw [if_pos h1]
   refine ⟨fun X h => (by cases h), fun _ j hj hfr => ?_⟩
   obtain ⟨u, hu, ho⟩ := List.any_eq_true.1 h1
   have := hfr u hu
   rw [over_meet ho (in_over (Nat.le_refl 0) hj)] at this
   cases this
  rw [if_neg h1]
  by_cases h2 : U.all (fun o => !meetBk o ⟨v, 0, K⟩) = true
  ·rw [if_pos h2]
   refine ⟨fun X h => ?_, fun h => (by cases h)⟩
   injection h with h
   subst h
   have hk : K * 2 ^ (0 - 0) = K := by simp
   refine ⟨rfl, rfl, by simp, fun u hu => ?_, fun j hj _ => by simp at hj ⊢; omega⟩
   have := List.all_eq_true.1 h2 u hu
   show meetBk u ⟨v, 0, K * 2 ^ (0 - 0)⟩ = false
   rw [hk]
   simpa using this
  ·rw [if_neg h2]
   refine ⟨fun X h => (by cases h), fun _ j hj hfr => h2 (List.all_eq_true.2 fun u hu => ?_)⟩
   have hjk : j = K := by simpa using hj
   subst hjk
   rw [hfr u hu]
   rfl
 | F + 1, K, ht => by
  unfold firstB
  by_cases h1 : U.any (fun o => overBk o ⟨v, F + 1, K⟩) = true
  ·rw [if_pos h1]
   refine ⟨fun X h => (by cases h), fun _ j hj hfr => ?_⟩
   obtain ⟨u, hu, ho⟩ := List.any_eq_true.1 h1
   have := hfr u hu
   rw [over_meet ho (in_over ht hj)] at this
   cases this
  rw [if_neg h1]
  by_cases h2 : U.all (fun o => !meetBk o ⟨v, F + 1, K⟩) = true
  ·rw [if_pos h2]
   refine ⟨fun X h => ?_, fun h => (by cases h)⟩
   injection h with h
   subst h
   have hk : K * 2 ^ (F + 1 - t) / 2 ^ (F + 1 - t) = K := Nat.mul_div_cancel _ (Nat.two_pow_pos _)
   refine ⟨rfl, rfl, hk, fun u hu => ?_, fun j hj _ => ?_⟩
   ·have := List.all_eq_true.1 h2 u hu
    exact meet_sub (by simpa using this) (in_over ht hk)
   ·show K * 2 ^ (F + 1 - t) ≤ j
    rw [← hj]
    exact Nat.div_mul_le_self _ _
  rw [if_neg h2]
  by_cases h3 : F + 1 = t
  ·rw [if_pos h3]
   refine ⟨fun X h => (by cases h), fun _ j hj hfr => h2 (List.all_eq_true.2 fun u hu => ?_)⟩
   have hjk : j = K := by rw [← h3] at hj; simpa using hj
   subst hjk
   have := hfr u hu
   rw [← h3] at this
   rw [this]
   rfl
  rw [if_neg h3]
  have htF : t ≤ F := by omega
  obtain ⟨l1, l2⟩ := first_least (U := U) (v := v) (t := t) F (2 * K) htF
  obtain ⟨r1, r2⟩ := first_least (U := U) (v := v) (t := t) F (2 * K + 1) htF
  cases hl : firstB U v t F (2 * K) with
  | some b =>
   refine ⟨fun X h => ?_, fun h => (by cases h)⟩
   have h : some b = some X := h
   injection h with h
   subst h
   obtain ⟨a1, a2, a3, a4, a5⟩ := l1 b hl
   refine ⟨a1, a2, (half_div htF).2 (.inl a3), a4, fun j hj hfr => ?_⟩
   rcases (half_div htF).1 hj with hj | hj
   ·exact a5 j hj hfr
   ·rcases Nat.lt_or_ge j b.k with hlt | hge
    ·exfalso
     have := Nat.div_le_div_right (c := 2 ^ (F - t)) (Nat.le_of_lt hlt)
     omega
    ·exact hge
  | none =>
   refine ⟨fun X h => ?_, fun h j hj hfr => ?_⟩
   ·have h : firstB U v t F (2 * K + 1) = some X := h
    obtain ⟨a1, a2, a3, a4, a5⟩ := r1 X h
    refine ⟨a1, a2, (half_div htF).2 (.inr a3), a4, fun j hj hfr => ?_⟩
    rcases (half_div htF).1 hj with hj | hj
    ·exact absurd hfr (l2 hl j hj)
    ·exact a5 j hj hfr
   ·have h : firstB U v t F (2 * K + 1) = none := h
    rcases (half_div htF).1 hj with hj | hj
    ·exact l2 hl j hj hfr
    ·exact r2 h j hj hfr
theorem found_fit {p : Pf} (hp : rtP p) {U : List Bk} {t : Nat} (ht : t ≤ (toB p).f) {X : Bk} (hX : firstB U p.ad.v6 t (toB p).f (toB p).k = some X) :
  fitB X ∧ overBk (toB p) X = true ∧ X.v = p.ad.v6 ∧ X.f = t ∧ freeB U X ∧ ∀ j, j / 2 ^ ((toB p).f - t) = (toB p).k → freeB U ⟨p.ad.v6, t, j⟩ → X.k ≤ j := by
 obtain ⟨a1, a2, a3, a4, a5⟩ := (first_least (U := U) (v := p.ad.v6) (t := t) (toB p).f (toB p).k ht).1 X hX
 have hf := toB_fit hp
 have ho : overBk (toB p) X = true := by
  have := in_over (v := p.ad.v6) (K := (toB p).k) ht a3
  rw [show (⟨p.ad.v6, t, X.k⟩ : Bk) = X by rw [← a1, ← a2]] at this
  exact this
 obtain ⟨o1, o2, o3⟩ := overBk_range ho
 refine ⟨⟨?_, ?_⟩, ho, a1, a2, a4, a5⟩
 ·rw [a1, a2]
  exact Nat.le_trans ht hf.1
 ·have := hf.2
  rw [← o1]
  omega
theorem pick_clear {p : Pf} (hp : rtP p) {used : List Pf} (hu : ∀ q ∈ used, rtP q) {bits : Int} (h1 : p.bits ≤ bits) (h2 : bits ≤ (wid p.ad.v6 : Nat)) {x : Pf} (hx : cutFirst (nP (diffB [toB p] (used.map toB))) bits = some x) :
  rtP x ∧ x.bits = bits ∧ over p x = true ∧ (∀ u ∈ used, over u x = false ∧ over x u = false) ∧ ∀ y, cutFirst (nP (diffB [toB p] ((used ++ [x]).map toB))) bits = some y → rtP y ∧ aheadA x.ad y.ad = true := by
 obtain ⟨b0, b1⟩ := chkP_bits hp.2
 obtain ⟨t, ht⟩ : ∃ t, t = wid p.ad.v6 - bits.toNat := ⟨_, rfl⟩
 have hbt : bits = ((wid p.ad.v6 - t : Nat) : Int) := by omega
 have htF : t ≤ (toB p).f := by
  show t ≤ wid p.ad.v6 - p.bits.toNat
  omega
 rw [cut_firstB hp h1 h2, ← ht] at hx
 obtain ⟨X, hX, rfl⟩ := Option.map_eq_some_iff.1 hx
 obtain ⟨f1, f2, f3, f4, f5, f6⟩ := found_fit hp htF hX
 obtain ⟨g1, g2⟩ := ofB_ok f1
 refine ⟨g1, ?_, ?_, fun u hu' => ?_, fun y hy => ?_⟩
 ·show ((wid X.v - X.f : Nat) : Int) = bits
  rw [f3, f4, hbt]
 ·rw [toB_over hp g1, g2, f2]
 ·have := f5 (toB u) (List.mem_map_of_mem hu')
  unfold meetBk at this
  rw [Bool.or_eq_false_iff] at this
  rw [toB_over (hu u hu') g1, toB_over g1 (hu u hu'), g2]
  exact this
 ·rw [List.map_append, cut_firstB hp h1 h2, ← ht] at hy
  obtain ⟨Y, hY, rfl⟩ := Option.map_eq_some_iff.1 hy
  obtain ⟨k1, k2, k3, k4, k5, k6⟩ := found_fit hp htF hY
  obtain ⟨m1, m2⟩ := ofB_ok k1
  refine ⟨m1, ?_⟩
  have hYd : Y.k / 2 ^ ((toB p).f - t) = (toB p).k := by
   have := (overBk_iff.1 k2).2.2
   rw [k4] at this
   exact this
  have hYf : freeB (used.map toB) ⟨p.ad.v6, t, Y.k⟩ := by
   rw [show (⟨p.ad.v6, t, Y.k⟩ : Bk) = Y by rw [← k3, ← k4]]
   exact fun u hu' => k5 u (List.mem_append_left _ hu')
  have hle := f6 Y.k hYd hYf
  have hXY := k5 X (List.mem_append_right _ (by simp [g2]))
  have hne : X.k ≠ Y.k := fun e => by
   have : X = Y := by
    obtain ⟨xv, xf, xk⟩ := X
    obtain ⟨yv, yf, yk⟩ := Y
    simp only at f3 f4 k3 k4 e
    rw [f3, f4, k3, k4, e]
   rw [this] at hXY
   rw [meetBk_iff.2 ⟨Y.v, Y.lo, Y.has_lo, Y.has_lo⟩] at hXY
   cases hXY
  have hlt : X.k < Y.k := by omega
  refine bef_ahead g1 m1 ?_
  rw [g2, m2]
  refine .inr ⟨f3.trans k3.symm, ?_⟩
  unfold Bk.hi Bk.lo
  rw [f4, k4]
  exact Nat.mul_le_mul_right _ hlt
end Go.Ma
namespace Go.Ma
open Go
theorem beqB_self (b : Bool) : beqB b b = true := by cases b <;> rfl
theorem rev_chk {l : List Pf} (h : tabIn l) (hc : chkL l = 0) : tabIn l.reverse ∧ chkL l.reverse = 0 := by
 obtain ⟨h1, h2⟩ := chkL_ok h hc
 exact ⟨fun p hp => h p (List.mem_reverse.1 hp), chkL_of (by rw [List.length_reverse]; exact h1) fun p hp => (h2 p (List.mem_reverse.1 hp)).2⟩
theorem turn_loop {l N : List Pf} (hl : l.length ≤ 1000) : loopN law_SpanSame_L17 FUEL (((), (), (), ((lenL l) - 1, ()), ()), (l, N, ([] : List Pf), ())) = some (((), (), ()), (l, N, l.reverse, ())) := by
 have := loop_up (step := law_SpanSame_L17) (fun k => (((), (), (), ((l.length : Int) - 1 - (k : Int), ()), ()), (l, N, l.reverse.take k, ()))) l.length (fun _ => some (((), (), ()), (l, N, l.reverse, ()))) (fun rec k hk hr => ?_) (fun rec => ?_) FUEL 0 (Nat.zero_le _) (fuel_gt (by omega))
 ·have e : (l.length : Int) - 1 - ((0 : Nat) : Int) = lenL l - 1 := by unfold lenL; omega
  rw [e, List.take_zero] at this
  exact this
 ·obtain ⟨p, hp⟩ : ∃ e, l[l.length - 1 - k]? = some e := ⟨_, List.getElem?_eq_getElem (by omega)⟩
  have e1 : (l.length : Int) - 1 - (k : Int) = ((l.length - 1 - k : Nat) : Int) := by omega
  have e2 : (l.length : Int) - 1 - (k : Int) - 1 = (l.length : Int) - 1 - ((k + 1 : Nat) : Int) := by omega
  have hrv : l.reverse[k]? = some p := by rw [List.getElem?_reverse hk]; exact hp
  have ht : l.reverse.take (k + 1) = l.reverse.take k ++ [p] := by
   obtain ⟨hk', rfl⟩ := List.getElem?_eq_some_iff.1 hrv
   exact List.take_succ_eq_append_getElem hk'
  simp only [law_SpanSame_L17]
  rw [decide_eq_true (show (l.length : Int) - 1 - (k : Int) ≥ 0 by omega), br_true, e2, e1, req_of (inRange_of (by omega) (by unfold lenL; omega)), geti_at hp, bind_s,
   req_of (room_of (zq11 _) (zq11 _) (by unfold lenL; simp only [List.length_take, List.length_reverse, List.length_cons, List.length_nil]; omega)), req_of (i64ok_of (by omega) (by omega)), ← ht, hr]
 ·simp only [law_SpanSame_L17]
  rw [decide_eq_false (show ¬ (l.length : Int) - 1 - (l.length : Int) ≥ 0 by omega), br_false, List.take_of_length_le (by simp)]
theorem SpanSame_eq {l : List Pf} {p : Pf} {a : Ad} (h : tabIn l) (hp : p.In) (ha : a.In) : law_SpanSame_t l p a = some (true, ()) := by
 unfold law_SpanSame_t
 rw [spanBegun_eq, bind_s]
 simp only [Bool.not_true, br_false, prefixBegun_eq, bind_s]
 rw [span_Norm_eq h, bind_s, span_Minus_eq h hp, bind_s, span_Has_eq h ha, bind_s]
 have z0 : decide (lenL ([] : List Pf) = 0) = true := rfl
 by_cases hc : chkL l = 0
 rotate_left
 ·have e1 : normT l = ([], chkL l, ()) := by unfold normT; rw [if_pos hc]
  have e2 : hasL l a = (false, chkL l, ()) := by unfold hasL; rw [if_pos hc]
  have e3 : minusT l p = ([], chkL l, ()) := by unfold minusT; rw [if_pos hc]
  rw [e1, e2, e3]
  simp only [decide_eq_false hc, Bool.not_false, br_true, br_false, bind_s, z0]
 obtain ⟨h1, h2⟩ := chkL_ok h hc
 have e1 : normT l = (nP (covB (l.map toB)), 0, ()) := by unfold normT; rw [if_neg (fun hh => hh hc)]
 have d0 : decide ((0 : Int) = 0) = true := rfl
 by_cases hcp : chkP p = 0
 rotate_left
 ·have e3 : minusT l p = ([], chkP p, ()) := by unfold minusT; rw [if_neg (fun hh => hh hc), if_pos hcp]
  rw [e1, e3]
  simp only [decide_true, decide_true, d0, decide_eq_false hcp, Bool.not_true, Bool.not_false, br_true, br_false, bind_s, z0]
 have e3 : minusT l p = (nP (diffB (l.map toB) [toB p]), 0, ()) := by unfold minusT; rw [if_neg (fun hh => hh hc), if_neg (fun hh => hh hcp)]
 by_cases hca : chkA a = 0
 rotate_left
 ·have e2 : hasL l a = (false, chkA a, ()) := by unfold hasL; rw [if_neg (fun hh => hh hc), if_pos hca]
  rw [e1, e2, e3]
  simp only [decide_true, decide_true, d0, decide_eq_false hca, Bool.not_true, Bool.not_false, br_true, br_false, bind_s]
 have e2 : hasL l a = (l.any (fun p => holds p a), 0, ()) := by unfold hasL; rw [if_neg (fun hh => hh hc), if_neg (fun hh => hh hca)]
 rw [e1, e2, e3]
 have hN := nP_len_le h2
 have hNr := nP_right (covB (l.map toB))
 have hNi := nP_idem (covB (l.map toB))
 have hNc := nP_chk (S := covB (l.map toB))
 have hMc := nP_chk (S := diffB (l.map toB) [toB p])
 have hNt := nP_in (covB (l.map toB))
 have hMt := nP_in (diffB (l.map toB) [toB p])
 have w1 : (nP (covB (l.map toB))).any (fun p => holds p a) = l.any (fun p => holds p a) := by
  rw [Bool.eq_iff_iff, any_nP ha hca, any_holds h2 ha]
 have w2 : (nP (diffB (l.map toB) [toB p])).any (fun p => holds p a) = (l.any (fun p => holds p a) && !holds p a) := by
  rw [Bool.eq_iff_iff, any_nP ha hca, Bool.and_eq_true, any_holds h2 ha]
  unfold diffB
  rw [covB_one]
  have := holds_toB (p := p) ⟨hp, hcp⟩ ha
  cases hh : holds p a
  ·rw [hh] at this
   constructor
   ·rintro ⟨g1, _⟩; exact ⟨g1, rfl⟩
   ·rintro ⟨g1, _⟩; exact ⟨g1, fun g => by cases this.2 g⟩
  ·rw [hh] at this
   constructor
   ·rintro ⟨_, g2⟩; exact absurd (this.1 rfl) g2
   ·rintro ⟨_, g2⟩; cases g2
 obtain ⟨r1, r2⟩ := rev_chk h hc
 have hrev : normT l.reverse = (nP (covB (l.map toB)), 0, ()) := by
  unfold normT
  rw [if_neg (fun hh => hh r2), nP_perm (List.reverse_perm l)]
 generalize nP (covB (l.map toB)) = N at hN hNr hNi hNc hNt w1 hrev ⊢
 generalize nP (diffB (l.map toB) [toB p]) = M at hMc hMt w2 ⊢
 simp only [decide_true, decide_true, d0, Bool.not_true, br_false, bind_s]
 by_cases hlen : 12 < N.length ∨ 12 < M.length
 ·have hx : (br (decide (lenL N > 12)) (some true) (some (decide (lenL M > 12)))) = some true := by
   rw [br_or]
   congr 1
   rw [Bool.or_eq_true, decide_eq_true_iff, decide_eq_true_iff]
   unfold lenL
   omega
  rw [hx, bind_s, br_true, decide_eq_true (show lenL N ≤ lenL l by unfold lenL; omega)]
 ·have hx : (br (decide (lenL N > 12)) (some true) (some (decide (lenL M > 12)))) = some false := by
   rw [br_or]
   congr 1
   rw [Bool.or_eq_false_iff, decide_eq_false_iff_not, decide_eq_false_iff_not]
   unfold lenL
   omega
  have cN := hNc (by omega)
  have cM := hMc (by omega)
  have q1 : hasL N a = (N.any (fun p => holds p a), 0, ()) := by unfold hasL; rw [if_neg (fun hh => hh cN), if_neg (fun hh => hh hca)]
  have q2 : hasL M a = (M.any (fun p => holds p a), 0, ()) := by unfold hasL; rw [if_neg (fun hh => hh cM), if_neg (fun hh => hh hca)]
  have q3 : normT N = (N, 0, ()) := by unfold normT; rw [if_neg (fun hh => hh cN), hNi]
  have s1 : zq1 N N = some (true, ()) := by rw [R_SamePrefixes_eq (by omega), decide_eq_true rfl]
  rw [hx, bind_s, br_false, span_Has_eq hNt ha, bind_s, span_Has_eq hMt ha, bind_s, span_Norm_eq hNt, bind_s, q1, q2, q3, w1, w2]
  simp only [decide_true, decide_true, d0, Bool.not_true, br_false, bind_s, beqB_self, R_HasAddr_eq hp hcp ha hca, s1]
  have hb : (br (l.any fun p => holds p a) (some (!(beqB (l.any (fun p => holds p a) && !holds p a) (!holds p a)))) (some (!(beqB (l.any (fun p => holds p a) && !holds p a) false)))) = some false := by
   cases l.any (fun p => holds p a) <;> cases holds p a <;> rfl
  rw [hb, bind_s, br_false, bind_s, br_false, req_of (i64ok_of (by unfold lenL; omega) (by unfold lenL; omega)), turn_loop (by omega), bind_s]
  simp only
  rw [span_Norm_eq r1, bind_s, hrev]
  simp only [decide_true, decide_true, d0, br_true, s1, bind_s]
theorem apart_in {l N : List Pf} (hl : N.length ≤ 1000000) {i : Nat} {q : Pf} (hq : N[i]? = some q) (h : ∀ (k : Nat) (p : Pf), k < i → N[k]? = some p → zq21 p q = some (false, 0, ()) ∧ zq21 q p = some (false, 0, ()) ∧ zq22 p q = some (pfZ, 4, ()) ∧ zq2 p.ad q.ad = some (true, 0, ())) :
  loopN zq9 FUEL (((), (), ((i : Int), ()), (0, ()), ()), (l, N, ())) = some (Sum.inr (((), (), ((i : Int), ()), ()), (l, N, ()))) := by
 have hi := (List.getElem?_eq_some_iff.1 hq).1
 refine loop_up (step := zq9) (fun k => (((), (), ((i : Int), ()), ((k : Int), ()), ()), (l, N, ()))) i (fun _ => some (Sum.inr (((), (), ((i : Int), ()), ()), (l, N, ())))) (fun rec k hk hr => ?_) (fun rec => ?_) FUEL 0 (Nat.zero_le _) (fuel_gt (by omega))
 ·obtain ⟨p, hp⟩ : ∃ e, N[k]? = some e := ⟨_, List.getElem?_eq_getElem (by omega)⟩
  obtain ⟨a1, a2, a3, a4⟩ := h k p hk hp
  have rk : inRange (k : Int) (lenL N) = true := inRange_of (by omega) (by unfold lenL; omega)
  have ri : inRange (i : Int) (lenL N) = true := inRange_of (by omega) (by unfold lenL; omega)
  have d0 : decide ((0 : Int) = 0) = true := rfl
  have d4 : decide ((4 : Int) = 4) = true := rfl
  simp only [zq9]
  rw [decide_eq_true (show (k : Int) < (i : Int) by omega), br_true]
  simp only [rk, ri, req_true, geti_at hp, geti_at hq, bind_s, a1, a2, a3, a4, dup_eq, decide_true, d0, d4, Bool.not_true, br_false]
  rw [show ((k : Int) + 1) = ((k + 1 : Nat) : Int) by omega, req_of (i64ok_of (by omega) (by omega)), hr]
 ·simp only [zq9]
  rw [decide_eq_false (show ¬ (i : Int) < (i : Int) by omega), br_false]
theorem apart_out {l N : List Pf} (hl : N.length ≤ 1000000) (hr : ∀ p ∈ N, rtP p) (h : ∀ (i : Nat) (q : Pf), N[i]? = some q → ∀ (k : Nat) (p : Pf), k < i → N[k]? = some p → zq21 p q = some (false, 0, ()) ∧ zq21 q p = some (false, 0, ()) ∧ zq22 p q = some (pfZ, 4, ()) ∧ zq2 p.ad q.ad = some (true, 0, ())) :
  loopN law_SpanApart_L7 FUEL (((), (), (0, ()), ()), (l, N, ())) = some (Sum.inr (((), (), ()), (l, N, ()))) := by
 refine loop_up (step := law_SpanApart_L7) (fun i => (((), (), ((i : Int), ()), ()), (l, N, ()))) N.length (fun _ => some (Sum.inr (((), (), ()), (l, N, ())))) (fun rec i hi hrec => ?_) (fun rec => ?_) FUEL 0 (Nat.zero_le _) (fuel_gt (by omega))
 ·obtain ⟨q, hq⟩ : ∃ e, N[i]? = some e := ⟨_, List.getElem?_eq_getElem hi⟩
  have rq := hr q (List.mem_of_getElem? hq)
  have ri : inRange (i : Int) (lenL N) = true := inRange_of (by omega) (by unfold lenL; omega)
  simp only [law_SpanApart_L7]
  rw [decide_eq_true (show (i : Int) < lenL N by unfold lenL; omega), br_true, req_of ri, geti_at hq, bind_s, zq18 rq.1, bind_s, decide_eq_true (show (chkP q, ()).1 = 0 from rq.2), Bool.not_true, br_false, apart_in hl hq (h i q hq), bind_s]
  simp only [sumC]
  rw [show ((i : Int) + 1) = ((i + 1 : Nat) : Int) by omega, req_of (i64ok_of (by omega) (by omega)), hrec]
 ·simp only [law_SpanApart_L7]
  rw [decide_eq_false (show ¬ (N.length : Int) < lenL N by unfold lenL; omega), br_false]
theorem SpanApart_eq {l : List Pf} (h : tabIn l) : law_SpanApart_t l = some (true, ()) := by
 unfold law_SpanApart_t
 rw [span_Norm_eq h, bind_s, spanBegun_eq, bind_s]
 simp only [Bool.not_true, br_false, prefixBegun_eq, bind_s]
 have z0 : decide (lenL ([] : List Pf) = 0) = true := rfl
 by_cases hc : chkL l = 0
 rotate_left
 ·have e1 : normT l = ([], chkL l, ()) := by unfold normT; rw [if_pos hc]
  rw [e1]
  simp only [decide_eq_false hc, Bool.not_false, br_true, z0]
 obtain ⟨h1, h2⟩ := chkL_ok h hc
 have e1 : normT l = (nP (covB (l.map toB)), 0, ()) := by unfold normT; rw [if_neg (fun hh => hh hc)]
 have hN := nP_len_le h2
 rw [e1]
 have d0 : decide ((0 : Int) = 0) = true := rfl
 simp only [decide_true, decide_true, d0, Bool.not_true, br_false]
 rw [apart_out (by omega) (nP_right _) (fun i q hq k p hk hp => ?_), bind_s]
 ·simp only [sumC]
  rw [decide_eq_true (show lenL (nP (covB (l.map toB))) ≤ lenL l by unfold lenL; omega)]
 ·obtain ⟨b1, b2⟩ := pair_of (normC_NormB _) hk (at_nP hp) (at_nP hq)
  have rp := nP_right _ p (List.mem_of_getElem? hp)
  have rq := nP_right _ q (List.mem_of_getElem? hq)
  obtain ⟨o1, o2⟩ := bef_apart b1
  refine ⟨?_, ?_, whole_no rp rq b2, ?_⟩
  ·rw [prefix_Has_eq rp.1 rq.1, has_right rp.2 rq.2, toB_over rp rq, o1]
  ·rw [prefix_Has_eq rq.1 rp.1, has_right rq.2 rp.2, toB_over rq rp, o2]
  ·rw [less_right' rp.1.1 rq.1.1 (chkP_ad rp.2) (chkP_ad rq.2), bef_ahead rp rq b1]
def addOut (l : List Pf) (p : Pf) (N M : List Pf) (b : Bool) : (((Bool × Unit) × Unit) × (List Pf × Unit)) ⊕ ((Unit × Unit × Unit × (Bool × Unit) × Unit) × (List Pf × (Pf × Unit) × List Pf × List Pf × Unit)) := Sum.inr (((), (), (), (b, ()), ()), (l, (p, ()), N, M, ()))
theorem adds_all {l N M : List Pf} {p : Pf} (hl : N.length ≤ 1000000) (hr : ∀ q ∈ N, rtP q) (hp : rtP p) :
  loopN law_SpanAdds_L9 FUEL (((), (), (), (false, ()), (0, ()), ()), (l, (p, ()), N, M, ())) = some (addOut l p N M (N.any fun q => over q p)) := by
 refine loop_up (step := law_SpanAdds_L9) (fun i => (((), (), (), ((N.take i).any (fun q => over q p), ()), ((i : Int), ()), ()), (l, (p, ()), N, M, ()))) N.length (fun _ => some (addOut l p N M (N.any fun q => over q p))) (fun rec i hi hrec => ?_) (fun rec => ?_) FUEL 0 (Nat.zero_le _) (fuel_gt (by omega))
 ·obtain ⟨q, hq⟩ : ∃ e, N[i]? = some e := ⟨_, List.getElem?_eq_getElem hi⟩
  have rq := hr q (List.mem_of_getElem? hq)
  rw [any_take hq] at hrec
  have d0 : decide ((0 : Int) = 0) = true := rfl
  simp only [law_SpanAdds_L9]
  rw [decide_eq_true (show (i : Int) < lenL N by unfold lenL; omega), br_true, req_of (inRange_of (by omega) (by unfold lenL; omega)), geti_at hq, bind_s, prefix_Has_eq rq.1 hp.1, has_right rq.2 hp.2, bind_s]
  simp only [decide_true, decide_true, d0, Bool.not_true, br_false, br_or, bind_s]
  rw [show ((i : Int) + 1) = ((i + 1 : Nat) : Int) by omega, req_of (i64ok_of (by omega) (by omega)), hrec]
 ·simp only [law_SpanAdds_L9]
  rw [decide_eq_false (show ¬ (N.length : Int) < lenL N by unfold lenL; omega), br_false, List.take_length]
  rfl
theorem adds_each {l : List Pf} {S : Bool → Nat → Prop} (hl : (nP S).length ≤ 1000000) :
  loopN zq8 FUEL (((), (0, ()), ()), (l, nP S, ())) = some (Sum.inr ((), (l, ()))) := by
 by_cases h12 : (nP S).length ≤ 12
 rotate_left
 ·rw [show FUEL = (FUEL - 1) + 1 from rfl, loopN_succ]
  simp only [zq8]
  have : br (decide ((0 : Int) < lenL (nP S))) (some (decide (lenL (nP S) ≤ 12))) (some false) = some false := by
   rw [decide_eq_false (show ¬ lenL (nP S) ≤ 12 by unfold lenL; omega)]
   exact br_same _ _
  rw [this, bind_s, br_false]
 have hc := nP_chk h12
 refine loop_up (step := zq8) (fun i => (((), ((i : Int), ()), ()), (l, nP S, ()))) (nP S).length (fun _ => some (Sum.inr ((), (l, ())))) (fun rec i hi hrec => ?_) (fun rec => ?_) FUEL 0 (Nat.zero_le _) (fuel_gt (by omega))
 ·obtain ⟨q, hq⟩ : ∃ e, (nP S)[i]? = some e := ⟨_, List.getElem?_eq_getElem hi⟩
  have rq := nP_right S q (List.mem_of_getElem? hq)
  have hm : minusT (nP S) q = (nP (diffB ((nP S).map toB) [toB q]), 0, ()) := by unfold minusT; rw [if_neg (fun hh => hh hc), if_neg (fun hh => hh rq.2)]
  have hlen := erase_len hq
  have d0 : decide ((0 : Int) = 0) = true := rfl
  simp only [zq8]
  rw [decide_eq_true (show (i : Int) < lenL (nP S) by unfold lenL; omega), br_true, decide_eq_true (show lenL (nP S) ≤ 12 by unfold lenL; omega), bind_s, br_true, req_of (inRange_of (by omega) (by unfold lenL; omega)), geti_at hq, bind_s, span_Minus_eq (nP_in S) rq.1, bind_s, hm]
  simp only [decide_true, decide_true, d0, Bool.not_true, br_false]
  rw [req_of (i64ok_of (by unfold lenL; omega) (by unfold lenL; omega)), decide_eq_true (show lenL (nP (diffB ((nP S).map toB) [toB q])) = lenL (nP S) - 1 by unfold lenL; omega), Bool.not_true, bind_s, br_false, show ((i : Int) + 1) = ((i + 1 : Nat) : Int) by omega, req_of (i64ok_of (by omega) (by omega)), hrec]
 ·simp only [zq8]
  rw [decide_eq_false (show ¬ ((nP S).length : Int) < lenL (nP S) by unfold lenL; omega), br_false, bind_s, br_false]
theorem SpanAdds_eq {l : List Pf} {p : Pf} (h : tabIn l) (hp : p.In) : law_SpanAdds_t l p = some (true, ()) := by
 unfold law_SpanAdds_t
 rw [spanBegun_eq, bind_s]
 simp only [Bool.not_true, br_false, prefixBegun_eq, bind_s]
 rw [span_Norm_eq h, bind_s, span_Minus_eq h hp, bind_s]
 have d0 : decide ((0 : Int) = 0) = true := rfl
 by_cases hc : chkL l = 0
 rotate_left
 ·have e1 : normT l = ([], chkL l, ()) := by unfold normT; rw [if_pos hc]
  rw [e1]
  simp only [decide_eq_false hc, Bool.not_false, br_true, bind_s]
 obtain ⟨h1, h2⟩ := chkL_ok h hc
 have e1 : normT l = (nP (covB (l.map toB)), 0, ()) := by unfold normT; rw [if_neg (fun hh => hh hc)]
 by_cases hcp : chkP p = 0
 rotate_left
 ·have e3 : minusT l p = ([], chkP p, ()) := by unfold minusT; rw [if_neg (fun hh => hh hc), if_pos hcp]
  rw [e1, e3]
  simp only [decide_true, decide_true, d0, decide_eq_false hcp, Bool.not_true, Bool.not_false, br_true, br_false, bind_s]
 have e3 : minusT l p = (nP (diffB (l.map toB) [toB p]), 0, ()) := by unfold minusT; rw [if_neg (fun hh => hh hc), if_neg (fun hh => hh hcp)]
 have rp : rtP p := ⟨hp, hcp⟩
 have hN := nP_len_le h2
 have hM1 := less_size h2 (toB p)
 have hM2 := lessB_size h2 (toB p)
 rw [e1, e3]
 simp only [decide_true, decide_true, d0, Bool.not_true, br_false, bind_s]
 rw [adds_all (by omega) (nP_right _) rp, bind_s]
 have hloop := adds_each (l := l) (S := covB (l.map toB)) (by omega)
 simp only [addOut, sumC, br_and, bind_s]
 by_cases ho : ((nP (covB (l.map toB))).any (fun q => over q p) && decide (lenL (nP (diffB (l.map toB) [toB p])) < 12)) = true
 rotate_left
 ·rw [show ((nP (covB (l.map toB))).any (fun q => over q p) && decide (lenL (nP (diffB (l.map toB) [toB p])) < 12)) = false by simpa using ho, br_false, hloop, bind_s]
 rw [ho, br_true]
 rw [Bool.and_eq_true, decide_eq_true_iff] at ho
 obtain ⟨o1, o2⟩ := ho
 obtain ⟨q, hq, hov⟩ := List.any_eq_true.1 o1
 have rq := nP_right _ q hq
 have hqm : toB q ∈ normC (covB (l.map toB)) := by
  have := List.mem_map_of_mem (f := toB) hq
  rwa [nP_toB] at this
 rw [toB_over rq rp] at hov
 have hcov := over_cov hqm hov (toB_fit rp)
 have hback := put_back hcov
 have hMr := nP_right (diffB (l.map toB) [toB p])
 generalize nP (diffB (l.map toB) [toB p]) = M at o2 hback hMr ⊢
 have hMl : M.length < 12 := by unfold lenL at o2; omega
 have hT : tabIn (M ++ [p]) := fun x hx => by
  rcases List.mem_append.1 hx with hx | hx
  ·exact (hMr x hx).1
  ·simp only [List.mem_singleton] at hx; rw [hx]; exact hp
 have hTc : chkL (M ++ [p]) = 0 := chkL_of (by simp; omega) fun x hx => by
  rcases List.mem_append.1 hx with hx | hx
  ·exact (hMr x hx).2
  ·simp only [List.mem_singleton] at hx; rw [hx]; exact hcp
 have hn : span_Norm_t (M ++ [p]) = some (nP (covB (l.map toB)), 0, ()) := by
  rw [span_Norm_eq hT]
  unfold normT
  rw [if_neg (fun hh => hh hTc), List.map_append]
  exact congrArg (fun x => some (x, (0 : Int), ())) hback
 have ra : room (lenL ([] : List Pf)) (lenL M) = true := room_of (zq11 _) (zq11 _) (by unfold lenL; simp; omega)
 have rb : room (lenL M) (lenL [p]) = true := room_of (zq11 _) (zq11 _) (by unfold lenL; simp; omega)
 have s1 : zq1 (nP (covB (l.map toB))) (nP (covB (l.map toB))) = some (true, ()) := by rw [R_SamePrefixes_eq (by omega), decide_eq_true rfl]
 simp only [List.nil_append, ra, rb, req_true, hn, bind_s, decide_true, d0, Bool.not_true, br_false, s1, hloop, dup_eq, both_self]
end Go.Ma
