/-
  The plain forms of the program's functions, as the machine runs them. Written by a program of mine.
-/
import Derived.Test.YtihapikjcifbaaaDoorMaH
namespace Go.Ma
open Go
/-- yardarm/addr.Check -/
noncomputable def addr_Check_t (a0 : Ad) : Option (Int × Unit) :=
  (br (!a0.v6)
      (br (!decide (a0.hi = 0))
        (some true)
        (some (decide (a0.lo ≥ 4294967296))))
      (some false)).bind fun c1 =>
  br c1
    (some (3, ()))
    (some (0, ()))

/-- yardarm/addr.group -/
noncomputable def addr_group_t (a0 : Ad) (a1 : Int) : Option (Int × Unit) :=
  br (decide (a1 < 4))
    (req (i64ok (16 * a1)) <|
    req (i64ok (48 - (16 * a1))) <|
    req (decide (0 ≤ 48 - (16 * a1))) <|
    some (aop .and .u64 (aop .shr .u64 a0.hi (48 - (16 * a1))) 65535, ()))
    (req (i64ok (16 * a1)) <|
    req (i64ok (112 - (16 * a1))) <|
    req (decide (0 ≤ 112 - (16 * a1))) <|
    some (aop .and .u64 (aop .shr .u64 a0.lo (112 - (16 * a1))) 65535, ()))

noncomputable def addr_row_L2 (rec : (((Int × Unit) × (Unit) × (Int × Unit) × Unit) × ((Ad × Unit) × Unit)) → Option (((Int × Unit) × Unit) × (Unit))) (x : (((Int × Unit) × (Unit) × (Int × Unit) × Unit) × ((Ad × Unit) × Unit))) : Option (((Int × Unit) × Unit) × (Unit)) :=
  let v0 := x.1.1.1
  let v1 := x.1.2.2.1.1
  let v2 := x.2.1.1
  req (i64ok (v0 + v1)) <|
  (br (decide (v0 + v1 < 8))
      (req (i64ok (v0 + v1)) <|
      (addr_group_t v2 (v0 + v1)).bind fun y1 =>
      some (decide (y1.1 = 0)))
      (some false)).bind fun c1 =>
  br c1
    (req (i64ok (v1 + 1)) <|
    rec (((v0, ()), (()), (v1 + 1, ()), ()), ((v2, ()), ())))
    (some (((v1, ()), ()), (())))

/-- yardarm/addr.row -/
noncomputable def addr_row_t (a0 : Ad) (a1 : Int) : Option (Int × Unit) :=
  (loopN addr_row_L2 FUEL (((a1, ()), (()), (0, ()), ()), ((a0, ()), ()))).bind fun y1 =>
  some (y1.1.1.1, ())

noncomputable def addr_longest_L3 (rec : (((Unit) × (Int × Unit) × (Int × Unit) × (Int × Unit) × Unit) × ((Ad × Unit) × Unit)) → Option (((Int × Unit) × (Int × Unit) × Unit) × (Unit))) (x : (((Unit) × (Int × Unit) × (Int × Unit) × (Int × Unit) × Unit) × ((Ad × Unit) × Unit))) : Option (((Int × Unit) × (Int × Unit) × Unit) × (Unit)) :=
  let v0 := x.1.2.1.1
  let v1 := x.1.2.2.1.1
  let v2 := x.1.2.2.2.1.1
  let v3 := x.2.1.1
  br (decide (v2 < 8))
    ((addr_row_t v3 v2).bind fun y1 =>
    br (decide (y1.1 > v1))
      (req (i64ok (v2 + 1)) <|
      rec (((()), (v2, ()), (y1.1, ()), (v2 + 1, ()), ()), ((v3, ()), ())))
      (req (i64ok (v2 + 1)) <|
      rec (((()), (v0, ()), (v1, ()), (v2 + 1, ()), ()), ((v3, ()), ()))))
    (some (((v0, ()), (v1, ()), ()), (())))

/-- yardarm/addr.longest -/
noncomputable def addr_longest_t (a0 : Ad) : Option (Int × Int × Unit) :=
  (loopN addr_longest_L3 FUEL (((()), (0, ()), (1, ()), (0, ()), ()), ((a0, ()), ()))).bind fun y1 =>
  br (decide (y1.1.2.1.1 < 2))
    (some (0, 0, ()))
    (some (y1.1.1.1, y1.1.2.1.1, ()))

/-- yardarm/addr.Order$1 -/
noncomputable def addr_Order_1_t (a0 : Int) (a1 : Int) : Option (Int × Unit) :=
  br (decide (a0 < a1))
    (some ((-1), ()))
    (br (decide (a0 > a1))
      (some (1, ()))
      (some (0, ())))

/-- yardarm/addr.Order -/
noncomputable def addr_Order_t (a0 : Ad) (a1 : Ad) : Option (Int × Unit) :=
  (br (!(beqB a0.v6 a1.v6))
      (some a1.v6)
      (some false)).bind fun c1 =>
  br c1
    (some ((-1), ()))
    (br (!(beqB a0.v6 a1.v6))
      (some (1, ()))
      (br (!decide (a0.hi = a1.hi))
        ((addr_Order_1_t a0.hi a1.hi).bind fun y2 =>
        some (y2.1, ()))
        ((addr_Order_1_t a0.lo a1.lo).bind fun y2 =>
        some (y2.1, ()))))

noncomputable def addr_Less_L2 (rec : (((Unit) × (Unit) × (Unit) × (Int × Unit) × (Int × Unit) × Unit) × ((Ad × Unit) × (Ad × Unit) × List Ad × Unit)) → Option ((((Bool × Unit) × (Int × Unit) × Unit) × (Unit)) ⊕ (((Unit) × (Unit) × Unit) × ((Ad × Unit) × (Ad × Unit) × Unit)))) (x : (((Unit) × (Unit) × (Unit) × (Int × Unit) × (Int × Unit) × Unit) × ((Ad × Unit) × (Ad × Unit) × List Ad × Unit))) : Option ((((Bool × Unit) × (Int × Unit) × Unit) × (Unit)) ⊕ (((Unit) × (Unit) × Unit) × ((Ad × Unit) × (Ad × Unit) × Unit))) :=
  let v0 := x.1.2.2.2.1.1
  let v1 := x.1.2.2.2.2.1.1
  let v2 := x.2.1.1
  let v3 := x.2.2.1.1
  let v4 := x.2.2.2.1
  br (decide (v1 < v0))
    (req (inRange v1 (lenL v4)) <|
    (geti v4 v1).bind fun p1 =>
    (addr_Check_t p1).bind fun y2 =>
    br (!decide (y2.1 = 0))
      (some (Sum.inl (((false, ()), (y2.1, ()), ()), (()))))
      (req (i64ok (v1 + 1)) <|
      rec (((()), (()), (()), (v0, ()), (v1 + 1, ()), ()), ((v2, ()), (v3, ()), v4, ()))))
    (some (Sum.inr ((((()), (()), ()), ((v2, ()), (v3, ()), ())))))

/-- yardarm/addr.Less -/
noncomputable def addr_Less_t (a0 : Ad) (a1 : Ad) : Option (Bool × Int × Unit) :=
  (loopN addr_Less_L2 FUEL (((()), (()), (()), (lenL ([a0, a1] : List Ad), ()), (0, ()), ()), ((a0, ()), (a1, ()), ([a0, a1] : List Ad), ()))).bind fun y1 =>
  sumC y1 (fun y2 =>
    some (y2.1.1.1, y2.1.2.1.1, ())) (fun y3 =>
    (addr_Order_t y3.2.1.1 y3.2.2.1.1).bind fun y4 =>
    some (decide (y4.1 < 0), 0, ()))

/-- yardarm/addr.After -/
noncomputable def addr_After_t (a0 : Ad) : Option (Ad × Bool × Unit) :=
  (br a0.v6
      (some (decide (aop .add .u64 a0.lo 1 = 0)))
      (some false)).bind fun c1 =>
  br c1
    (both
      (dup 1 <|
      some ((⟨a0.v6, aop .add .u64 a0.hi 1, aop .add .u64 a0.lo 1⟩ : Ad), !decide (aop .add .u64 a0.hi 1 = 0), ()))
      (some ((⟨a0.v6, aop .add .u64 a0.hi 1, aop .add .u64 a0.lo 1⟩ : Ad), !decide (aop .add .u64 a0.hi 1 = 0), ())))
    (both
      (br a0.v6
        (both
          (dup 1 <|
          some ((⟨a0.v6, a0.hi, aop .add .u64 a0.lo 1⟩ : Ad), true, ()))
          (some ((⟨a0.v6, a0.hi, aop .add .u64 a0.lo 1⟩ : Ad), true, ())))
        (dup 1 <|
        some ((⟨a0.v6, a0.hi, aop .add .u64 a0.lo 1⟩ : Ad), decide (aop .add .u64 a0.lo 1 < 4294967296), ())))
      (br a0.v6
        (some ((⟨a0.v6, a0.hi, aop .add .u64 a0.lo 1⟩ : Ad), true, ()))
        (some ((⟨a0.v6, a0.hi, aop .add .u64 a0.lo 1⟩ : Ad), decide (aop .add .u64 a0.lo 1 < 4294967296), ()))))

/-- yardarm/addr.Next -/
noncomputable def addr_Next_t (a0 : Ad) : Option (Ad × Bool × Int × Unit) :=
  (addr_Check_t a0).bind fun y1 =>
  br (!decide (y1.1 = 0))
    (some ((⟨false, 0, 0⟩ : Ad), false, y1.1, ()))
    ((addr_After_t a0).bind fun y2 =>
    br (!y2.2.1)
      (some ((⟨false, 0, 0⟩ : Ad), false, 0, ()))
      (some (y2.1, true, 0, ())))

/-- yardarm/yardarmlaw.v4 -/
noncomputable def law_v4_t (a0 : Int) : Option (Ad × Unit) :=
  some ((⟨false, 0, a0⟩ : Ad), ())

end Go.Ma
