/-
  The plain forms of the program's functions, as the machine runs them. Written by a program of mine.
-/
import Derived.Test.YtghbkkmelbobcaaMaH
namespace Go.Ma
open Go
/-- yardarm/addr.Check -/
noncomputable def addr_Check_t (a0 : Ad) : Option (Int × Unit) :=
  (br (!a0.v6)
      (br (!decide (a0.hi = 0))
        (some true)
        (some (decide (a0.lo ≥ 4294967296))))
      (some false)).bind fun c1 =>
  br c1
    (some (3, ()))
    (some (0, ()))

/-- yardarm/prefix.Wide -/
noncomputable def prefix_Wide_t (a0 : Ad) : Option (Int × Unit) :=
  br a0.v6
    (some (128, ()))
    (some (32, ()))

/-- yardarm/prefix.mask -/
noncomputable def prefix_mask_t (a0 : Ad) (a1 : Int) : Option (Ad × Unit) :=
  (prefix_Wide_t a0).bind fun y1 =>
  req (i64ok (y1.1 - a1)) <|
  br (decide (y1.1 - a1 < 64))
    (req (decide (0 ≤ y1.1 - a1)) <|
    br (decide (y1.1 - a1 > 64))
      (br (decide (y1.1 - a1 < 128))
        (req (i64ok ((y1.1 - a1) - 64)) <|
        req (decide (0 ≤ (y1.1 - a1) - 64)) <|
        some ((⟨a0.v6, aop .sub .u64 (aop .shl .u64 1 ((y1.1 - a1) - 64)) 1, aop .sub .u64 (aop .shl .u64 1 (y1.1 - a1)) 1⟩ : Ad), ()))
        (some ((⟨a0.v6, 18446744073709551615, aop .sub .u64 (aop .shl .u64 1 (y1.1 - a1)) 1⟩ : Ad), ())))
      (some ((⟨a0.v6, 0, aop .sub .u64 (aop .shl .u64 1 (y1.1 - a1)) 1⟩ : Ad), ())))
    (br (decide (y1.1 - a1 > 64))
      (br (decide (y1.1 - a1 < 128))
        (req (i64ok ((y1.1 - a1) - 64)) <|
        req (decide (0 ≤ (y1.1 - a1) - 64)) <|
        some ((⟨a0.v6, aop .sub .u64 (aop .shl .u64 1 ((y1.1 - a1) - 64)) 1, 18446744073709551615⟩ : Ad), ()))
        (some ((⟨a0.v6, 18446744073709551615, 18446744073709551615⟩ : Ad), ())))
      (some ((⟨a0.v6, 0, 18446744073709551615⟩ : Ad), ())))

/-- yardarm/prefix.Cut -/
noncomputable def prefix_Cut_t (a0 : Ad) (a1 : Int) : Option (Ad × Unit) :=
  (prefix_mask_t a0 a1).bind fun y1 =>
  some ((⟨a0.v6, aop .andNot .u64 a0.hi y1.1.hi, aop .andNot .u64 a0.lo y1.1.lo⟩ : Ad), ())

/-- yardarm/prefix.Check -/
noncomputable def prefix_Check_t (a0 : Pf) : Option (Int × Unit) :=
  (addr_Check_t a0.ad).bind fun y1 =>
  br (!decide (y1.1 = 0))
    (some (y1.1, ()))
    ((br (decide (a0.bits < 0))
        (some true)
        ((prefix_Wide_t a0.ad).bind fun y2 =>
        some (decide (a0.bits > y2.1)))).bind fun c2 =>
    br c2
      (some (3, ()))
      ((prefix_Cut_t a0.ad a0.bits).bind fun y3 =>
      br (!(eqAd y3.1 a0.ad))
        (some (4, ()))
        (some (0, ()))))

/-- yardarm/addr.Order$1 -/
noncomputable def addr_Order_1_t (a0 : Int) (a1 : Int) : Option (Int × Unit) :=
  br (decide (a0 < a1))
    (some ((-1), ()))
    (br (decide (a0 > a1))
      (some (1, ()))
      (some (0, ())))

/-- yardarm/addr.Order -/
noncomputable def addr_Order_t (a0 : Ad) (a1 : Ad) : Option (Int × Unit) :=
  (br (!(beqB a0.v6 a1.v6))
      (some a1.v6)
      (some false)).bind fun c1 =>
  br c1
    (some ((-1), ()))
    (br (!(beqB a0.v6 a1.v6))
      (some (1, ()))
      (br (!decide (a0.hi = a1.hi))
        ((addr_Order_1_t a0.hi a1.hi).bind fun y2 =>
        some (y2.1, ()))
        ((addr_Order_1_t a0.lo a1.lo).bind fun y2 =>
        some (y2.1, ()))))

/-- yardarm/prefix.Order -/
noncomputable def prefix_Order_t (a0 : Pf) (a1 : Pf) : Option (Int × Unit) :=
  (addr_Order_t a0.ad a1.ad).bind fun y1 =>
  br (!decide (y1.1 = 0))
    (some (y1.1, ()))
    (req (i64ok (a0.bits - a1.bits)) <|
    some (a0.bits - a1.bits, ()))

noncomputable def table_Check_L4 (rec : (((Unit) × (Unit) × (Int × Unit) × (Int × Unit) × Unit) × (List Pf × Unit)) → Option ((((Int × Unit) × Unit) × (List Pf × Unit)) ⊕ ((Unit) × (List Pf × Unit)))) (x : (((Unit) × (Unit) × (Int × Unit) × (Int × Unit) × Unit) × (List Pf × Unit))) : Option ((((Int × Unit) × Unit) × (List Pf × Unit)) ⊕ ((Unit) × (List Pf × Unit))) :=
  let v0 := x.1.2.2.1.1
  let v1 := x.1.2.2.2.1.1
  let v2 := x.2.1
  br (decide (v1 < v0))
    (req (inRange v1 (lenL v2)) <|
    (geti v2 v1).bind fun p1 =>
    (prefix_Check_t p1).bind fun y2 =>
    br (!decide (y2.1 = 0))
      (some (Sum.inl (((y2.1, ()), ()), (v2, ()))))
      ((br (decide (v1 > 0))
          (req (i64ok (v1 - 1)) <|
          req (inRange (v1 - 1) (lenL v2)) <|
          (geti v2 (v1 - 1)).bind fun p3 =>
          some (eqPf p3 p1))
          (some false)).bind fun c3 =>
      br c3
        (some (Sum.inl (((6, ()), ()), (v2, ()))))
        ((br (decide (v1 > 0))
            (req (i64ok (v1 - 1)) <|
            req (inRange (v1 - 1) (lenL v2)) <|
            (geti v2 (v1 - 1)).bind fun p4 =>
            (prefix_Order_t p4 p1).bind fun y5 =>
            some (decide (y5.1 > 0)))
            (some false)).bind fun c4 =>
        br c4
          (some (Sum.inl (((4, ()), ()), (v2, ()))))
          (req (i64ok (v1 + 1)) <|
          rec (((()), (()), (v0, ()), (v1 + 1, ()), ()), (v2, ()))))))
    (some (Sum.inr (((()), (v2, ())))))

/-- yardarm/table.Check -/
noncomputable def table_Check_t (a0 : List Pf) : Option (Int × Unit) :=
  br (decide (lenL a0 > 12))
    (some (2, ()))
    ((loopN table_Check_L4 FUEL (((()), (()), (lenL a0, ()), (0, ()), ()), (a0, ()))).bind fun y1 =>
    sumC y1 (fun y2 =>
      some (y2.1.1.1, ())) (fun y3 =>
      some (0, ())))

/-- yardarm/prefix.Holds -/
noncomputable def prefix_Holds_t (a0 : Pf) (a1 : Ad) : Option (Bool × Unit) :=
  (br (beqB a0.ad.v6 a1.v6)
      ((prefix_Cut_t a1 a0.bits).bind fun y1 =>
      some (eqAd y1.1 a0.ad))
      (some false)).bind fun c1 =>
  some (c1, ())

/-- yardarm/table.Find$1 -/
noncomputable def table_Find_1_t (a0 : Int) (a1 : List Pf) (a2 : Ad) : Option (Bool × Unit) :=
  req (inRange a0 (lenL a1)) <|
  (geti a1 a0).bind fun p1 =>
  (prefix_Holds_t p1 a2).bind fun y2 =>
  some (y2.1, ())

noncomputable def table_Find_table_nearest_L3 (rec : (((Unit) × (Unit) × (Int × Unit) × (Unit) × (Int × Unit) × (Int × Unit) × Unit) × (List Pf × (Unit) × (Ad × Unit) × Unit)) → Option (((Int × Unit) × Unit) × (List Pf × (Unit) × (Ad × Unit) × Unit))) (x : (((Unit) × (Unit) × (Int × Unit) × (Unit) × (Int × Unit) × (Int × Unit) × Unit) × (List Pf × (Unit) × (Ad × Unit) × Unit))) : Option (((Int × Unit) × Unit) × (List Pf × (Unit) × (Ad × Unit) × Unit)) :=
  let v0 := x.1.2.2.1.1
  let v1 := x.1.2.2.2.2.1.1
  let v2 := x.1.2.2.2.2.2.1.1
  let v3 := x.2.1
  let v4 := x.2.2.2.1.1
  br (decide (v2 < v1))
    (req (inRange v2 (lenL v3)) <|
    (geti v3 v2).bind fun p1 =>
    (table_Find_1_t v2 v3 v4).bind fun y2 =>
    (br y2.1
        (br (decide (v0 < 0))
          (some true)
          (req (inRange v0 (lenL v3)) <|
          req (inRange v0 (lenL v3)) <|
          (geti v3 v0).bind fun p3 =>
          some (decide (p1.bits > p3.bits))))
        (some false)).bind fun c3 =>
    br c3
      (req (i64ok (v2 + 1)) <|
      rec (((()), (()), (v2, ()), (()), (v1, ()), (v2 + 1, ()), ()), (v3, (()), (v4, ()), ())))
      (req (i64ok (v2 + 1)) <|
      rec (((()), (()), (v0, ()), (()), (v1, ()), (v2 + 1, ()), ()), (v3, (()), (v4, ()), ()))))
    (some (((v0, ()), ()), (v3, (()), (v4, ()), ())))

noncomputable def table_Find_table_nearest_1_L3 (rec : (((Unit) × (Unit) × (Int × Unit) × (Unit) × (Int × Unit) × (Int × Unit) × Unit) × (List Pf × (Unit) × (Ad × Unit) × Unit)) → Option (((Int × Unit) × Unit) × (List Pf × (Unit) × (Ad × Unit) × Unit))) (x : (((Unit) × (Unit) × (Int × Unit) × (Unit) × (Int × Unit) × (Int × Unit) × Unit) × (List Pf × (Unit) × (Ad × Unit) × Unit))) : Option (((Int × Unit) × Unit) × (List Pf × (Unit) × (Ad × Unit) × Unit)) :=
  let v0 := x.1.2.2.1.1
  let v1 := x.1.2.2.2.2.1.1
  let v2 := x.1.2.2.2.2.2.1.1
  let v3 := x.2.1
  let v4 := x.2.2.2.1.1
  br (decide (v2 < v1))
    (req (inRange v2 (lenL v3)) <|
    (geti v3 v2).bind fun p1 =>
    (table_Find_1_t v2 v3 v4).bind fun y2 =>
    (br y2.1
        (br (decide (v0 < 0))
          (some true)
          (req (inRange v0 (lenL v3)) <|
          req (inRange v0 (lenL v3)) <|
          (geti v3 v0).bind fun p3 =>
          some (decide (p1.bits > p3.bits))))
        (some false)).bind fun c3 =>
    br c3
      (req (i64ok (v2 + 1)) <|
      rec (((()), (()), (v2, ()), (()), (v1, ()), (v2 + 1, ()), ()), (v3, (()), (v4, ()), ())))
      (req (i64ok (v2 + 1)) <|
      rec (((()), (()), (v0, ()), (()), (v1, ()), (v2 + 1, ()), ()), (v3, (()), (v4, ()), ()))))
    (some (((v0, ()), ()), (v3, (()), (v4, ()), ())))

/-- yardarm/table.Find -/
noncomputable def table_Find_t (a0 : List Pf) (a1 : Ad) : Option (Int × Int × Unit) :=
  (table_Check_t a0).bind fun y1 =>
  br (decide (y1.1 = 0))
    ((addr_Check_t a1).bind fun y2 =>
    br (!decide (y2.1 = 0))
      (some (0, y2.1, ()))
      ((loopN table_Find_table_nearest_L3 FUEL (((()), (()), ((-1), ()), (()), (lenL a0, ()), (0, ()), ()), (a0, (()), (a1, ()), ()))).bind fun y3 =>
      br (decide (y3.1.1.1 < 0))
        (some (0, 5, ()))
        (some (y3.1.1.1, 0, ()))))
    (br (!decide (y1.1 = 0))
      (some (0, y1.1, ()))
      ((loopN table_Find_table_nearest_1_L3 FUEL (((()), (()), ((-1), ()), (()), (lenL a0, ()), (0, ()), ()), (a0, (()), (a1, ()), ()))).bind fun y2 =>
      br (decide (y2.1.1.1 < 0))
        (some (0, 5, ()))
        (some (y2.1.1.1, 0, ()))))

/-- yardarm/table.ready -/
noncomputable def table_ready_t (a0 : List Pf) (a1 : Int) : Option (Int × Unit) :=
  (table_Check_t a0).bind fun y1 =>
  (br (decide (y1.1 = 0))
      (br (decide (a1 < 0))
        (some true)
        (some (decide (a1 ≥ lenL a0))))
      (some false)).bind fun c2 =>
  br c2
    (some (3, ()))
    (some (y1.1, ()))

/-- yardarm/prefix.Over -/
noncomputable def prefix_Over_t (a0 : Pf) (a1 : Pf) : Option (Bool × Unit) :=
  (br (decide (a0.bits ≤ a1.bits))
      ((prefix_Holds_t a0 a1.ad).bind fun y1 =>
      some y1.1)
      (some false)).bind fun c1 =>
  some (c1, ())

/-- yardarm/table.above$1 -/
noncomputable def table_above_1_t (a0 : Int) (a1 : Int) (a2 : List Pf) : Option (Bool × Unit) :=
  (br (!decide (a0 = a1))
      (req (inRange a0 (lenL a2)) <|
      (geti a2 a0).bind fun p1 =>
      req (inRange a1 (lenL a2)) <|
      (geti a2 a1).bind fun p2 =>
      (prefix_Over_t p1 p2).bind fun y3 =>
      some y3.1)
      (some false)).bind fun c1 =>
  some (c1, ())

noncomputable def table_above_table_nearest_L3 (rec : (((Unit) × (Unit) × (Int × Unit) × (Unit) × (Int × Unit) × (Int × Unit) × Unit) × (List Pf × (Unit) × (Int × Unit) × Unit)) → Option (((Int × Unit) × Unit) × (List Pf × (Unit) × (Int × Unit) × Unit))) (x : (((Unit) × (Unit) × (Int × Unit) × (Unit) × (Int × Unit) × (Int × Unit) × Unit) × (List Pf × (Unit) × (Int × Unit) × Unit))) : Option (((Int × Unit) × Unit) × (List Pf × (Unit) × (Int × Unit) × Unit)) :=
  let v0 := x.1.2.2.1.1
  let v1 := x.1.2.2.2.2.1.1
  let v2 := x.1.2.2.2.2.2.1.1
  let v3 := x.2.1
  let v4 := x.2.2.2.1.1
  br (decide (v2 < v1))
    (req (inRange v2 (lenL v3)) <|
    (geti v3 v2).bind fun p1 =>
    (table_above_1_t v2 v4 v3).bind fun y2 =>
    (br y2.1
        (br (decide (v0 < 0))
          (some true)
          (req (inRange v0 (lenL v3)) <|
          req (inRange v0 (lenL v3)) <|
          (geti v3 v0).bind fun p3 =>
          some (decide (p1.bits > p3.bits))))
        (some false)).bind fun c3 =>
    br c3
      (req (i64ok (v2 + 1)) <|
      rec (((()), (()), (v2, ()), (()), (v1, ()), (v2 + 1, ()), ()), (v3, (()), (v4, ()), ())))
      (req (i64ok (v2 + 1)) <|
      rec (((()), (()), (v0, ()), (()), (v1, ()), (v2 + 1, ()), ()), (v3, (()), (v4, ()), ()))))
    (some (((v0, ()), ()), (v3, (()), (v4, ()), ())))

/-- yardarm/table.above -/
noncomputable def table_above_t (a0 : List Pf) (a1 : Int) : Option (Int × Unit) :=
  (loopN table_above_table_nearest_L3 FUEL (((()), (()), ((-1), ()), (()), (lenL a0, ()), (0, ()), ()), (a0, (()), (a1, ()), ()))).bind fun y1 =>
  some (y1.1.1.1, ())

/-- yardarm/table.Above -/
noncomputable def table_Above_t (a0 : List Pf) (a1 : Int) : Option (Int × Int × Unit) :=
  (table_ready_t a0 a1).bind fun y1 =>
  br (!decide (y1.1 = 0))
    (some (0, y1.1, ()))
    ((table_above_t a0 a1).bind fun y2 =>
    br (decide (y2.1 < 0))
      (some (0, 5, ()))
      (some (y2.1, 0, ())))

/-- yardarm/yardarmref.CheckAddr -/
noncomputable def R_CheckAddr_t (a0 : Ad) : Option (Int × Unit) :=
  (br (!a0.v6)
      (br (decide (a0.hi > 0))
        (some true)
        (some (decide (a0.lo > 4294967295))))
      (some false)).bind fun c1 =>
  br c1
    (some (3, ()))
    (some (0, ()))

/-- yardarm/yardarmref.wide -/
noncomputable def R_wide_t (a0 : Ad) : Option (Int × Unit) :=
  br a0.v6
    (some (128, ()))
    (some (32, ()))

/-- yardarm/yardarmref.between -/
noncomputable def R_between_t (a0 : Int) (a1 : Int) (a2 : Int) : Option (Bool × Unit) :=
  (br (decide (a0 ≥ a1))
      (some (decide (a0 ≤ a2)))
      (some false)).bind fun c1 =>
  some (c1, ())

noncomputable def R_Bits_L3 (rec : (((Unit) × (Unit) × (Int × Unit) × Unit) × ((Ad × Unit) × List Int × Unit)) → Option (((Unit) × (Unit) × Unit) × ((Ad × Unit) × List Int × Unit))) (x : (((Unit) × (Unit) × (Int × Unit) × Unit) × ((Ad × Unit) × List Int × Unit))) : Option (((Unit) × (Unit) × Unit) × ((Ad × Unit) × List Int × Unit)) :=
  let v0 := x.1.2.2.1.1
  let v1 := x.2.1.1
  let v2 := x.2.2.1
  br (decide (v0 ≥ 0))
    (req (decide (0 ≤ v0)) <|
    req (room (lenL v2) (lenL ([convI .u8 (aop .add .u64 48 (aop .rem .u64 (aop .shr .u64 v1.hi v0) 2))] : List Int))) <|
    req (i64ok (v0 - 1)) <|
    rec (((()), (()), (v0 - 1, ()), ()), ((v1, ()), v2 ++ ([convI .u8 (aop .add .u64 48 (aop .rem .u64 (aop .shr .u64 v1.hi v0) 2))] : List Int), ())))
    (some (((()), (()), ()), ((v1, ()), v2, ())))

noncomputable def R_Bits_L7 (rec : (((Unit) × (Unit) × (Int × Unit) × Unit) × ((Ad × Unit) × List Int × Unit)) → Option (((Unit) × (Unit) × Unit) × ((Ad × Unit) × List Int × Unit))) (x : (((Unit) × (Unit) × (Int × Unit) × Unit) × ((Ad × Unit) × List Int × Unit))) : Option (((Unit) × (Unit) × Unit) × ((Ad × Unit) × List Int × Unit)) :=
  let v0 := x.1.2.2.1.1
  let v1 := x.2.1.1
  let v2 := x.2.2.1
  br (decide (v0 ≥ 0))
    (req (decide (0 ≤ v0)) <|
    req (room (lenL v2) (lenL ([convI .u8 (aop .add .u64 48 (aop .rem .u64 (aop .shr .u64 v1.lo v0) 2))] : List Int))) <|
    req (i64ok (v0 - 1)) <|
    rec (((()), (()), (v0 - 1, ()), ()), ((v1, ()), v2 ++ ([convI .u8 (aop .add .u64 48 (aop .rem .u64 (aop .shr .u64 v1.lo v0) 2))] : List Int), ())))
    (some (((()), (()), ()), ((v1, ()), v2, ())))

/-- yardarm/yardarmref.Bits -/
noncomputable def R_Bits_t (a0 : Ad) : Option (ByteArray × Unit) :=
  (loopN R_Bits_L3 FUEL (((()), (()), (63, ()), ()), ((a0, ()), ([] : List Int), ()))).bind fun y1 =>
  (loopN R_Bits_L7 FUEL (((()), (()), (63, ()), ()), ((y1.2.1.1, ()), y1.2.2.1, ()))).bind fun y2 =>
  br (!y2.2.1.1.v6)
    (req ((decide (96 ≤ lenL y2.2.2.1)) && (decide (lenL y2.2.2.1 ≤ lenL y2.2.2.1))) <|
    some (bytesOf (subL y2.2.2.1 96 (lenL y2.2.2.1)), ()))
    (some (bytesOf y2.2.2.1, ()))

noncomputable def R_CheckPrefix_L8 (rec : (((ByteArray × Unit) × (Int × Unit) × Unit) × (Unit)) → Option ((((Int × Unit) × Unit) × (Unit)) ⊕ ((Unit) × (Unit)))) (x : (((ByteArray × Unit) × (Int × Unit) × Unit) × (Unit))) : Option ((((Int × Unit) × Unit) × (Unit)) ⊕ ((Unit) × (Unit))) :=
  let v0 := x.1.1.1
  let v1 := x.1.2.1.1
  br (decide (v1 < lenS v0))
    (req (inRange v1 (lenS v0)) <|
    br (!decide (byteAt v0 v1 = 48))
      (some (Sum.inl (((4, ()), ()), (()))))
      (req (i64ok (v1 + 1)) <|
      rec (((v0, ()), (v1 + 1, ()), ()), (()))))
    (some (Sum.inr (((()), (())))))

/-- yardarm/yardarmref.CheckPrefix -/
noncomputable def R_CheckPrefix_t (a0 : Pf) : Option (Int × Unit) :=
  (R_CheckAddr_t a0.ad).bind fun y1 =>
  br (!decide (y1.1 = 0))
    (some (y1.1, ()))
    ((R_wide_t a0.ad).bind fun y2 =>
    (R_between_t a0.bits 0 y2.1).bind fun y3 =>
    br (!y3.1)
      (some (3, ()))
      ((R_Bits_t a0.ad).bind fun y4 =>
      (loopN R_CheckPrefix_L8 FUEL (((y4.1, ()), (a0.bits, ()), ()), (()))).bind fun y5 =>
      sumC y5 (fun y6 =>
        some (y6.1.1.1, ())) (fun y7 =>
        some (0, ()))))

noncomputable def R_IsAhead_L5 (rec : (((ByteArray × Unit) × (ByteArray × Unit) × (Int × Unit) × Unit) × (Unit)) → Option ((((Bool × Unit) × Unit) × (Unit)) ⊕ ((Unit) × (Unit)))) (x : (((ByteArray × Unit) × (ByteArray × Unit) × (Int × Unit) × Unit) × (Unit))) : Option ((((Bool × Unit) × Unit) × (Unit)) ⊕ ((Unit) × (Unit))) :=
  let v0 := x.1.1.1
  let v1 := x.1.2.1.1
  let v2 := x.1.2.2.1.1
  br (decide (v2 < lenS v0))
    (req (inRange v2 (lenS v0)) <|
    req (inRange v2 (lenS v1)) <|
    br (!decide (byteAt v0 v2 = byteAt v1 v2))
      (req (inRange v2 (lenS v0)) <|
      req (inRange v2 (lenS v1)) <|
      some (Sum.inl (((decide (byteAt v0 v2 < byteAt v1 v2), ()), ()), (()))))
      (req (i64ok (v2 + 1)) <|
      rec (((v0, ()), (v1, ()), (v2 + 1, ()), ()), (()))))
    (some (Sum.inr (((()), (())))))

/-- yardarm/yardarmref.IsAhead -/
noncomputable def R_IsAhead_t (a0 : Ad) (a1 : Ad) : Option (Bool × Unit) :=
  br (!(beqB a0.v6 a1.v6))
    (some (a1.v6, ()))
    ((R_Bits_t a0).bind fun y1 =>
    (R_Bits_t a1).bind fun y2 =>
    (loopN R_IsAhead_L5 FUEL (((y1.1, ()), (y2.1, ()), (0, ()), ()), (()))).bind fun y3 =>
    sumC y3 (fun y4 =>
      some (y4.1.1.1, ())) (fun y5 =>
      some (false, ())))

/-- yardarm/yardarmref.PrefixAhead -/
noncomputable def R_PrefixAhead_t (a0 : Pf) (a1 : Pf) : Option (Bool × Unit) :=
  br (!(eqAd a0.ad a1.ad))
    ((R_IsAhead_t a0.ad a1.ad).bind fun y1 =>
    some (y1.1, ()))
    (some (decide (a0.bits < a1.bits), ()))

noncomputable def R_CheckTable_L4 (rec : (((Unit) × (Int × Unit) × Unit) × (List Pf × Unit)) → Option ((((Int × Unit) × Unit) × (List Pf × Unit)) ⊕ ((Unit) × (List Pf × Unit)))) (x : (((Unit) × (Int × Unit) × Unit) × (List Pf × Unit))) : Option ((((Int × Unit) × Unit) × (List Pf × Unit)) ⊕ ((Unit) × (List Pf × Unit))) :=
  let v0 := x.1.2.1.1
  let v1 := x.2.1
  br (decide (v0 < lenL v1))
    (req (inRange v0 (lenL v1)) <|
    (geti v1 v0).bind fun p1 =>
    (R_CheckPrefix_t p1).bind fun y2 =>
    br (!decide (y2.1 = 0))
      (some (Sum.inl (((y2.1, ()), ()), (v1, ()))))
      ((br (decide (v0 > 0))
          (req (inRange v0 (lenL v1)) <|
          (geti v1 v0).bind fun p3 =>
          req (i64ok (v0 - 1)) <|
          req (inRange (v0 - 1) (lenL v1)) <|
          (geti v1 (v0 - 1)).bind fun p4 =>
          some (eqPf p3 p4))
          (some false)).bind fun c3 =>
      br c3
        (some (Sum.inl (((6, ()), ()), (v1, ()))))
        ((br (decide (v0 > 0))
            (req (inRange v0 (lenL v1)) <|
            (geti v1 v0).bind fun p4 =>
            req (i64ok (v0 - 1)) <|
            req (inRange (v0 - 1) (lenL v1)) <|
            (geti v1 (v0 - 1)).bind fun p5 =>
            (R_PrefixAhead_t p4 p5).bind fun y6 =>
            some y6.1)
            (some false)).bind fun c4 =>
        br c4
          (some (Sum.inl (((4, ()), ()), (v1, ()))))
          (req (i64ok (v0 + 1)) <|
          rec (((()), (v0 + 1, ()), ()), (v1, ()))))))
    (some (Sum.inr (((()), (v1, ())))))

/-- yardarm/yardarmref.CheckTable -/
noncomputable def R_CheckTable_t (a0 : List Pf) : Option (Int × Unit) :=
  br (decide (lenL a0 > 12))
    (some (2, ()))
    ((loopN R_CheckTable_L4 FUEL (((()), (0, ()), ()), (a0, ()))).bind fun y1 =>
    sumC y1 (fun y2 =>
      some (y2.1.1.1, ())) (fun y3 =>
      some (0, ())))

/-- yardarm/yardarmref.Host -/
noncomputable def R_Host_t (a0 : Ad) : Option (Pf × Unit) :=
  (R_wide_t a0).bind fun y1 =>
  some ((⟨a0, y1.1⟩ : Pf), ())

/-- yardarm/yardarmref.HasAddr -/
noncomputable def R_HasAddr_t (a0 : Pf) (a1 : Ad) : Option (Bool × Unit) :=
  (br (beqB a0.ad.v6 a1.v6)
      ((R_Bits_t a0.ad).bind fun y1 =>
      req ((decide (0 ≤ a0.bits)) && (decide (a0.bits ≤ lenS y1.1))) <|
      (R_Bits_t a1).bind fun y2 =>
      req ((decide (0 ≤ a0.bits)) && (decide (a0.bits ≤ lenS y2.1))) <|
      some (strcmp .eql (subS y1.1 0 a0.bits) (subS y2.1 0 a0.bits)))
      (some false)).bind fun c1 =>
  some (c1, ())

/-- yardarm/yardarmref.HasPrefix -/
noncomputable def R_HasPrefix_t (a0 : Pf) (a1 : Pf) : Option (Bool × Unit) :=
  (br (decide (a0.bits ≤ a1.bits))
      ((R_HasAddr_t a0 a1.ad).bind fun y1 =>
      some y1.1)
      (some false)).bind fun c1 =>
  some (c1, ())

noncomputable def R_NearestOf_L5 (rec : (((Unit) × (Int × Unit) × (Unit) × (Int × Unit) × (Int × Unit) × Unit) × (List Pf × (Pf × Unit) × Unit)) → Option ((((Int × Unit) × Unit) × (List Pf × Unit)) ⊕ (((Unit) × (Int × Unit) × (Unit) × (Int × Unit) × Unit) × (List Pf × (Pf × Unit) × Unit)))) (x : (((Unit) × (Int × Unit) × (Unit) × (Int × Unit) × (Int × Unit) × Unit) × (List Pf × (Pf × Unit) × Unit))) : Option ((((Int × Unit) × Unit) × (List Pf × Unit)) ⊕ (((Unit) × (Int × Unit) × (Unit) × (Int × Unit) × Unit) × (List Pf × (Pf × Unit) × Unit))) :=
  let v0 := x.1.2.1.1
  let v1 := x.1.2.2.2.1.1
  let v2 := x.1.2.2.2.2.1.1
  let v3 := x.2.1
  let v4 := x.2.2.1.1
  br (decide (v2 < lenL v3))
    ((br (!decide (v2 = v0))
        (req (inRange v2 (lenL v3)) <|
        req (inRange v2 (lenL v3)) <|
        (geti v3 v2).bind fun p1 =>
        some (decide (p1.bits = v1)))
        (some false)).bind fun c1 =>
    (br c1
        (req (inRange v2 (lenL v3)) <|
        (geti v3 v2).bind fun p2 =>
        (R_HasPrefix_t p2 v4).bind fun y3 =>
        some y3.1)
        (some false)).bind fun c2 =>
    br c2
      (some (Sum.inl (((v2, ()), ()), (v3, ()))))
      (req (i64ok (v2 + 1)) <|
      rec (((()), (v0, ()), (()), (v1, ()), (v2 + 1, ()), ()), (v3, (v4, ()), ()))))
    (some (Sum.inr ((((()), (v0, ()), (()), (v1, ()), ()), (v3, (v4, ()), ())))))

noncomputable def R_NearestOf_L2 (rec : (((Unit) × (Int × Unit) × (Unit) × (Int × Unit) × Unit) × (List Pf × (Pf × Unit) × Unit)) → Option ((((Int × Unit) × Unit) × (List Pf × Unit)) ⊕ ((Unit) × (List Pf × Unit)))) (x : (((Unit) × (Int × Unit) × (Unit) × (Int × Unit) × Unit) × (List Pf × (Pf × Unit) × Unit))) : Option ((((Int × Unit) × Unit) × (List Pf × Unit)) ⊕ ((Unit) × (List Pf × Unit))) :=
  let v0 := x.1.2.1.1
  let v1 := x.1.2.2.2.1.1
  let v2 := x.2.1
  let v3 := x.2.2.1.1
  br (decide (v1 ≥ 0))
    ((loopN R_NearestOf_L5 FUEL (((()), (v0, ()), (()), (v1, ()), (0, ()), ()), (v2, (v3, ()), ()))).bind fun y1 =>
    sumC y1 (fun y2 =>
      some (Sum.inl (((y2.1.1.1, ()), ()), (y2.2.1, ())))) (fun y3 =>
      req (i64ok (y3.1.2.2.2.1.1 - 1)) <|
      rec (((()), (y3.1.2.1.1, ()), (()), (y3.1.2.2.2.1.1 - 1, ()), ()), (y3.2.1, (y3.2.2.1.1, ()), ()))))
    (some (Sum.inr (((()), (v2, ())))))

/-- yardarm/yardarmref.NearestOf -/
noncomputable def R_NearestOf_t (a0 : List Pf) (a1 : Pf) (a2 : Int) : Option (Int × Unit) :=
  (loopN R_NearestOf_L2 FUEL (((()), (a2, ()), (()), (128, ()), ()), (a0, (a1, ()), ()))).bind fun y1 =>
  sumC y1 (fun y2 =>
    some (y2.1.1.1, ())) (fun y3 =>
    some ((-1), ()))

/-- yardarm/yardarmlaw.v4 -/
noncomputable def law_v4_t (a0 : Int) : Option (Ad × Unit) :=
  some ((⟨false, 0, a0⟩ : Ad), ())

/-- yardarm/yardarmlaw.net -/
noncomputable def law_net_t (a0 : Int) (a1 : Int) : Option (Pf × Unit) :=
  (law_v4_t a0).bind fun y1 =>
  some ((⟨y1.1, a1⟩ : Pf), ())

/-- yardarm/yardarmlaw.routes -/
noncomputable def law_routes_t : Option ((List Pf) × Unit) :=
  (law_net_t 0 0).bind fun y1 =>
  (law_net_t 167772160 8).bind fun y2 =>
  (law_net_t 167837696 16).bind fun y3 =>
  some (([y1.1, y2.1, y3.1] : List Pf), ())

end Go.Ma
