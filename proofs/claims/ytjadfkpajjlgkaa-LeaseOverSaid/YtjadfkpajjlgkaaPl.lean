/-
  The plain forms of the program's functions, as the machine runs them. Written by a program of mine.
-/
import Derived.Test.YtjadfkpajjlgkaaMaH
namespace Go.Ma
open Go
/-- yardarm/addr.Check -/
noncomputable def addr_Check_t (a0 : Ad) : Option (Int × Unit) :=
  (br (!a0.v6)
      (br (!decide (a0.hi = 0))
        (some true)
        (some (decide (a0.lo ≥ 4294967296))))
      (some false)).bind fun c1 =>
  br c1
    (some (3, ()))
    (some (0, ()))

/-- yardarm/prefix.Wide -/
noncomputable def prefix_Wide_t (a0 : Ad) : Option (Int × Unit) :=
  br a0.v6
    (some (128, ()))
    (some (32, ()))

/-- yardarm/prefix.mask -/
noncomputable def prefix_mask_t (a0 : Ad) (a1 : Int) : Option (Ad × Unit) :=
  (prefix_Wide_t a0).bind fun y1 =>
  req (i64ok (y1.1 - a1)) <|
  br (decide (y1.1 - a1 < 64))
    (req (decide (0 ≤ y1.1 - a1)) <|
    br (decide (y1.1 - a1 > 64))
      (br (decide (y1.1 - a1 < 128))
        (req (i64ok ((y1.1 - a1) - 64)) <|
        req (decide (0 ≤ (y1.1 - a1) - 64)) <|
        some ((⟨a0.v6, aop .sub .u64 (aop .shl .u64 1 ((y1.1 - a1) - 64)) 1, aop .sub .u64 (aop .shl .u64 1 (y1.1 - a1)) 1⟩ : Ad), ()))
        (some ((⟨a0.v6, 18446744073709551615, aop .sub .u64 (aop .shl .u64 1 (y1.1 - a1)) 1⟩ : Ad), ())))
      (some ((⟨a0.v6, 0, aop .sub .u64 (aop .shl .u64 1 (y1.1 - a1)) 1⟩ : Ad), ())))
    (br (decide (y1.1 - a1 > 64))
      (br (decide (y1.1 - a1 < 128))
        (req (i64ok ((y1.1 - a1) - 64)) <|
        req (decide (0 ≤ (y1.1 - a1) - 64)) <|
        some ((⟨a0.v6, aop .sub .u64 (aop .shl .u64 1 ((y1.1 - a1) - 64)) 1, 18446744073709551615⟩ : Ad), ()))
        (some ((⟨a0.v6, 18446744073709551615, 18446744073709551615⟩ : Ad), ())))
      (some ((⟨a0.v6, 0, 18446744073709551615⟩ : Ad), ())))

/-- yardarm/prefix.Cut -/
noncomputable def prefix_Cut_t (a0 : Ad) (a1 : Int) : Option (Ad × Unit) :=
  (prefix_mask_t a0 a1).bind fun y1 =>
  some ((⟨a0.v6, aop .andNot .u64 a0.hi y1.1.hi, aop .andNot .u64 a0.lo y1.1.lo⟩ : Ad), ())

/-- yardarm/prefix.Check -/
noncomputable def prefix_Check_t (a0 : Pf) : Option (Int × Unit) :=
  (addr_Check_t a0.ad).bind fun y1 =>
  br (!decide (y1.1 = 0))
    (some (y1.1, ()))
    ((br (decide (a0.bits < 0))
        (some true)
        ((prefix_Wide_t a0.ad).bind fun y2 =>
        some (decide (a0.bits > y2.1)))).bind fun c2 =>
    br c2
      (some (3, ()))
      ((prefix_Cut_t a0.ad a0.bits).bind fun y3 =>
      br (!(eqAd y3.1 a0.ad))
        (some (4, ()))
        (some (0, ()))))

/-- yardarm/lease.Narrow -/
noncomputable def lease_Narrow_t (a0 : Pf) : Option (Bool × Unit) :=
  (prefix_Wide_t a0.ad).bind fun y1 =>
  req (i64ok (y1.1 - a0.bits)) <|
  some (decide (y1.1 - a0.bits ≤ 4), ())

/-- yardarm/prefix.Holds -/
noncomputable def prefix_Holds_t (a0 : Pf) (a1 : Ad) : Option (Bool × Unit) :=
  (br (beqB a0.ad.v6 a1.v6)
      ((prefix_Cut_t a1 a0.bits).bind fun y1 =>
      some (eqAd y1.1 a0.ad))
      (some false)).bind fun c1 =>
  some (c1, ())

/-- yardarm/addr.Order$1 -/
noncomputable def addr_Order_1_t (a0 : Int) (a1 : Int) : Option (Int × Unit) :=
  br (decide (a0 < a1))
    (some ((-1), ()))
    (br (decide (a0 > a1))
      (some (1, ()))
      (some (0, ())))

/-- yardarm/addr.Order -/
noncomputable def addr_Order_t (a0 : Ad) (a1 : Ad) : Option (Int × Unit) :=
  (br (!(beqB a0.v6 a1.v6))
      (some a1.v6)
      (some false)).bind fun c1 =>
  br c1
    (some ((-1), ()))
    (br (!(beqB a0.v6 a1.v6))
      (some (1, ()))
      (br (!decide (a0.hi = a1.hi))
        ((addr_Order_1_t a0.hi a1.hi).bind fun y2 =>
        some (y2.1, ()))
        ((addr_Order_1_t a0.lo a1.lo).bind fun y2 =>
        some (y2.1, ()))))

noncomputable def lease_Pool_L7 (rec : (((Unit) × (Unit) × (Int × Unit) × (Int × Unit) × Unit) × (List Ad × (Bool × Int × Int × Int × Unit) × Unit)) → Option ((((Int × Unit) × Unit) × (List Ad × Unit)) ⊕ ((Unit) × (List Ad × Unit)))) (x : (((Unit) × (Unit) × (Int × Unit) × (Int × Unit) × Unit) × (List Ad × (Bool × Int × Int × Int × Unit) × Unit))) : Option ((((Int × Unit) × Unit) × (List Ad × Unit)) ⊕ ((Unit) × (List Ad × Unit))) :=
  let v0 := x.1.2.2.1.1
  let v1 := x.1.2.2.2.1.1
  let v2 := x.2.1
  let v3 := x.2.2.1.1
  let v4 := x.2.2.1.2.1
  let v5 := x.2.2.1.2.2.1
  let v6 := x.2.2.1.2.2.2.1
  br (decide (v1 < v0))
    (req (inRange v1 (lenL v2)) <|
    (geti v2 v1).bind fun p1 =>
    (addr_Check_t p1).bind fun y2 =>
    br (!decide (y2.1 = 0))
      (some (Sum.inl (((y2.1, ()), ()), (v2, ()))))
      ((prefix_Holds_t (⟨(⟨v3, v4, v5⟩ : Ad), v6⟩ : Pf) p1).bind fun y3 =>
      br (!y3.1)
        (some (Sum.inl (((5, ()), ()), (v2, ()))))
        ((br (decide (v1 > 0))
            (req (i64ok (v1 - 1)) <|
            req (inRange (v1 - 1) (lenL v2)) <|
            (geti v2 (v1 - 1)).bind fun p4 =>
            (addr_Order_t p4 p1).bind fun y5 =>
            some (decide (y5.1 ≥ 0)))
            (some false)).bind fun c4 =>
        br c4
          (some (Sum.inl (((4, ()), ()), (v2, ()))))
          (req (i64ok (v1 + 1)) <|
          rec (((()), (()), (v0, ()), (v1 + 1, ()), ()), (v2, (v3, v4, v5, v6, ()), ()))))))
    (some (Sum.inr (((()), (v2, ())))))

/-- yardarm/lease.Pool -/
noncomputable def lease_Pool_t (a0 : Pf) (a1 : List Ad) : Option (Int × Unit) :=
  (prefix_Check_t a0).bind fun y1 =>
  br (!decide (y1.1 = 0))
    (some (y1.1, ()))
    ((lease_Narrow_t a0).bind fun y2 =>
    (br (!y2.1)
        (some true)
        (some (decide (lenL a1 > 6)))).bind fun c3 =>
    br c3
      (some (2, ()))
      ((loopN lease_Pool_L7 FUEL (((()), (()), (lenL a1, ()), (0, ()), ()), (a1, (a0.ad.v6, a0.ad.hi, a0.ad.lo, a0.bits, ()), ()))).bind fun y4 =>
      sumC y4 (fun y5 =>
        some (y5.1.1.1, ())) (fun y6 =>
        some (0, ()))))

/-- yardarm/lease.within -/
noncomputable def lease_within_t (a0 : Int) (a1 : Int) (a2 : Int) : Option (Bool × Unit) :=
  (br (decide (a0 ≥ a1))
      (some (decide (a0 ≤ a2)))
      (some false)).bind fun c1 =>
  some (c1, ())

noncomputable def lease_Who_L2 (rec : (((ByteArray × Unit) × (Int × Unit) × (Int × Unit) × Unit) × (Unit)) → Option ((((Bool × Unit) × Unit) × (Unit)) ⊕ (((ByteArray × Unit) × Unit) × (Unit)))) (x : (((ByteArray × Unit) × (Int × Unit) × (Int × Unit) × Unit) × (Unit))) : Option ((((Bool × Unit) × Unit) × (Unit)) ⊕ (((ByteArray × Unit) × Unit) × (Unit))) :=
  let v0 := x.1.1.1
  let v1 := x.1.2.1.1
  let v2 := x.1.2.2.1.1
  br (decide (v2 < v1))
    (req (inRange v2 (lenS v0)) <|
    (br (decide (byteAt v0 v2 ≥ 97))
        (some (decide (byteAt v0 v2 ≤ 122)))
        (some false)).bind fun c1 =>
    (br (!c1)
        (br (decide (byteAt v0 v2 ≥ 48))
          (some (!(decide (byteAt v0 v2 ≤ 57))))
          (some true))
        (some false)).bind fun c2 =>
    br c2
      (some (Sum.inl (((false, ()), ()), (()))))
      (req (i64ok (v2 + 1)) <|
      rec (((v0, ()), (v1, ()), (v2 + 1, ()), ()), (()))))
    (some (Sum.inr ((((v0, ()), ()), (())))))

/-- yardarm/lease.Who -/
noncomputable def lease_Who_t (a0 : ByteArray) : Option (Bool × Unit) :=
  (loopN lease_Who_L2 FUEL (((a0, ()), (lenS a0, ()), (0, ()), ()), (()))).bind fun y1 =>
  sumC y1 (fun y2 =>
    some (y2.1.1.1, ())) (fun y3 =>
    (lease_within_t (lenS y3.1.1.1) 1 8).bind fun y4 =>
    some (y4.1, ()))

/-- yardarm/lease.one -/
noncomputable def lease_one_t (a0 : Ls) : Option (Int × Unit) :=
  (addr_Check_t a0.ad).bind fun y1 =>
  br (!decide (y1.1 = 0))
    (some (y1.1, ()))
    ((lease_Who_t a0.who).bind fun y2 =>
    br (!y2.1)
      (some (1, ()))
      ((lease_within_t a0.upto 0 10499).bind fun y3 =>
      br (!y3.1)
        (some (3, ()))
        (some (0, ()))))

noncomputable def lease_All_L4 (rec : (((Unit) × (Int × Unit) × (Unit) × (Int × Unit) × (Int × Unit) × Unit) × (List Ls × Unit)) → Option ((((Int × Unit) × Unit) × (List Ls × Unit)) ⊕ (((Unit) × (Int × Unit) × Unit) × (List Ls × Unit)))) (x : (((Unit) × (Int × Unit) × (Unit) × (Int × Unit) × (Int × Unit) × Unit) × (List Ls × Unit))) : Option ((((Int × Unit) × Unit) × (List Ls × Unit)) ⊕ (((Unit) × (Int × Unit) × Unit) × (List Ls × Unit))) :=
  let v0 := x.1.2.1.1
  let v1 := x.1.2.2.2.1.1
  let v2 := x.1.2.2.2.2.1.1
  let v3 := x.2.1
  br (decide (v2 < v1))
    (req (inRange v2 (lenL v3)) <|
    (geti v3 v2).bind fun p1 =>
    (lease_one_t p1).bind fun y2 =>
    br (!decide (y2.1 = 0))
      (some (Sum.inl (((y2.1, ()), ()), (v3, ()))))
      (req (i64ok (v2 + 1)) <|
      rec (((()), (v0, ()), (()), (v1, ()), (v2 + 1, ()), ()), (v3, ()))))
    (some (Sum.inr ((((()), (v0, ()), ()), (v3, ())))))

noncomputable def lease_All_L11 (rec : (((Unit) × (Int × Unit) × (Int × Unit) × Unit) × (List Ls × Unit)) → Option ((((Int × Unit) × Unit) × (List Ls × Unit)) ⊕ (((Int × Unit) × Unit) × (List Ls × Unit)))) (x : (((Unit) × (Int × Unit) × (Int × Unit) × Unit) × (List Ls × Unit))) : Option ((((Int × Unit) × Unit) × (List Ls × Unit)) ⊕ (((Int × Unit) × Unit) × (List Ls × Unit))) :=
  let v0 := x.1.2.1.1
  let v1 := x.1.2.2.1.1
  let v2 := x.2.1
  br (decide (v1 < lenL v2))
    (req (i64ok (v1 - 1)) <|
    req (inRange (v1 - 1) (lenL v2)) <|
    req (inRange (v1 - 1) (lenL v2)) <|
    (geti v2 (v1 - 1)).bind fun p1 =>
    req (inRange v1 (lenL v2)) <|
    req (inRange v1 (lenL v2)) <|
    (geti v2 v1).bind fun p2 =>
    (addr_Order_t p1.ad p2.ad).bind fun y3 =>
    br (decide (y3.1 ≥ 0))
      (some (Sum.inl (((4, ()), ()), (v2, ()))))
      (req (i64ok (v1 + 1)) <|
      rec (((()), (v0, ()), (v1 + 1, ()), ()), (v2, ()))))
    (some (Sum.inr ((((v0, ()), ()), (v2, ())))))

/-- yardarm/lease.All -/
noncomputable def lease_All_t (a0 : List Ls) (a1 : Int) : Option (Int × Unit) :=
  br (decide (lenL a0 > 20))
    (some (2, ()))
    ((loopN lease_All_L4 FUEL (((()), (a1, ()), (()), (lenL a0, ()), (0, ()), ()), (a0, ()))).bind fun y1 =>
    sumC y1 (fun y2 =>
      some (y2.1.1.1, ())) (fun y3 =>
      (loopN lease_All_L11 FUEL (((()), (y3.1.2.1.1, ()), (1, ()), ()), (y3.2.1, ()))).bind fun y4 =>
      sumC y4 (fun y5 =>
        some (y5.1.1.1, ())) (fun y6 =>
        (lease_within_t y6.1.1.1 0 9999).bind fun y7 =>
        br (!y7.1)
          (some (3, ()))
          (some (0, ())))))

/-- slices.Clone[[]yardarm/api.Lease,yardarm/api.Lease] -/
noncomputable def slices_Clone___api_Lease_api_Lease__t (a0 : List Ls) : Option ((List Ls) × Unit) :=
  nilB a0.length
    (some (([] : List Ls), ()))
    (req (room (lenL ([] : List Ls)) (lenL a0)) <|
    some (([] : List Ls) ++ a0, ()))

/-- yardarm/lease.Live$1 -/
noncomputable def lease_Live_1_t (a0 : Ls) (a1 : Int) : Option (Bool × Unit) :=
  some (decide (a0.upto < a1), ())

noncomputable def lease_Live_slices_DeleteFunc___api_Lease_api_Lease__slices_IndexFunc___api_Lease_api_Lease__L2 (rec : (((Unit) × (Unit) × (Int × Unit) × (Int × Unit) × Unit) × (List Ls × (Int × Unit) × List Ls × List Ls × List Ls × Unit)) → Option ((((Int × Unit) × Unit) × (List Ls × (Int × Unit) × List Ls × List Ls × List Ls × Unit)) ⊕ ((Unit) × (List Ls × (Int × Unit) × List Ls × List Ls × List Ls × Unit)))) (x : (((Unit) × (Unit) × (Int × Unit) × (Int × Unit) × Unit) × (List Ls × (Int × Unit) × List Ls × List Ls × List Ls × Unit))) : Option ((((Int × Unit) × Unit) × (List Ls × (Int × Unit) × List Ls × List Ls × List Ls × Unit)) ⊕ ((Unit) × (List Ls × (Int × Unit) × List Ls × List Ls × List Ls × Unit))) :=
  let v0 := x.1.2.2.1.1
  let v1 := x.1.2.2.2.1.1
  let v2 := x.2.1
  let v3 := x.2.2.1.1
  let v4 := x.2.2.2.1
  let v5 := x.2.2.2.2.1
  let v6 := x.2.2.2.2.2.1
  br (decide (v1 < v0))
    (req (inRange v1 (lenL v5)) <|
    (geti v5 v1).bind fun p1 =>
    (lease_Live_1_t p1 v3).bind fun y2 =>
    br y2.1
      (some (Sum.inl (((v1, ()), ()), (v2, (v3, ()), v4, v5, v6, ()))))
      (req (i64ok (v1 + 1)) <|
      rec (((()), (()), (v0, ()), (v1 + 1, ()), ()), (v2, (v3, ()), v4, v5, v6, ()))))
    (some (Sum.inr (((()), (v2, (v3, ()), v4, v5, v6, ())))))

noncomputable def lease_Live_slices_DeleteFunc___api_Lease_api_Lease__L5 (rec : (((Unit) × (Unit) × (Int × Unit) × (Int × Unit) × Unit) × (List Ls × (Int × Unit) × List Ls × List Ls × Unit)) → Option (((Unit) × (Int × Unit) × Unit) × (List Ls × (Int × Unit) × List Ls × List Ls × Unit))) (x : (((Unit) × (Unit) × (Int × Unit) × (Int × Unit) × Unit) × (List Ls × (Int × Unit) × List Ls × List Ls × Unit))) : Option (((Unit) × (Int × Unit) × Unit) × (List Ls × (Int × Unit) × List Ls × List Ls × Unit)) :=
  let v0 := x.1.2.2.1.1
  let v1 := x.1.2.2.2.1.1
  let v2 := x.2.1
  let v3 := x.2.2.1.1
  let v4 := x.2.2.2.1
  let v5 := x.2.2.2.2.1
  br (decide (v1 < lenL v5))
    (req (inRange v1 (lenL v5)) <|
    (geti v5 v1).bind fun p1 =>
    (lease_Live_1_t p1 v3).bind fun y2 =>
    br (!y2.1)
      (req (inRange v0 (lenL v5)) <|
      (geti v5 v0).bind fun p3 =>
      req (i64ok (v0 + 1)) <|
      req (i64ok (v1 + 1)) <|
      rec (((()), (()), (v0 + 1, ()), (v1 + 1, ()), ()), (v2, (v3, ()), v4, seti v5 v0 p1, ())))
      (req (i64ok (v1 + 1)) <|
      rec (((()), (()), (v0, ()), (v1 + 1, ()), ()), (v2, (v3, ()), v4, v5, ()))))
    (some (((()), (v0, ()), ()), (v2, (v3, ()), v4, v5, ())))

/-- yardarm/lease.Live -/
noncomputable def lease_Live_t (a0 : List Ls) (a1 : Int) : Option ((List Ls) × Unit) :=
  (slices_Clone___api_Lease_api_Lease__t a0).bind fun y1 =>
  (loopN lease_Live_slices_DeleteFunc___api_Lease_api_Lease__slices_IndexFunc___api_Lease_api_Lease__L2 FUEL (((()), (()), (lenL y1.1, ()), (0, ()), ()), (a0, (a1, ()), ([] : List Ls), y1.1, ([] : List Ls), ()))).bind fun y2 =>
  sumC y2 (fun y3 =>
    br (decide (y3.1.1.1 = (-1)))
      (some (y3.2.2.2.2.1, ()))
      (req (i64ok (y3.1.1.1 + 1)) <|
      (loopN lease_Live_slices_DeleteFunc___api_Lease_api_Lease__L5 FUEL (((()), (()), (y3.1.1.1, ()), (y3.1.1.1 + 1, ()), ()), (y3.2.1, (y3.2.2.1.1, ()), y3.2.2.2.1, y3.2.2.2.2.1, ()))).bind fun y4 =>
      req ((decide (0 ≤ y4.1.2.1.1)) && (decide (y4.1.2.1.1 ≤ lenL y4.2.2.2.2.1))) <|
      req ((decide (0 ≤ y4.1.2.1.1)) && (decide (y4.1.2.1.1 ≤ lenL (clrL y4.2.2.2.2.1 y4.1.2.1.1 (⟨(⟨false, 0, 0⟩ : Ad), (ByteArray.empty), 0⟩ : Ls))))) <|
      some (subL (clrL y4.2.2.2.2.1 y4.1.2.1.1 (⟨(⟨false, 0, 0⟩ : Ad), (ByteArray.empty), 0⟩ : Ls)) 0 y4.1.2.1.1, ()))) (fun y5 =>
    some (y5.2.2.2.2.1, ()))

/-- yardarm/lease.Raw$1 -/
noncomputable def lease_Raw_1_t (a0 : Ls) (a1 : ByteArray) : Option (Bool × Unit) :=
  some (strcmp .eql a0.who a1, ())

/-- yardarm/prefix.Last -/
noncomputable def prefix_Last_t (a0 : Pf) : Option (Ad × Unit) :=
  (prefix_mask_t a0.ad a0.bits).bind fun y1 =>
  some ((⟨a0.ad.v6, aop .or .u64 a0.ad.hi y1.1.hi, aop .or .u64 a0.ad.lo y1.1.lo⟩ : Ad), ())

/-- yardarm/addr.After -/
noncomputable def addr_After_t (a0 : Ad) : Option (Ad × Bool × Unit) :=
  (br a0.v6
      (some (decide (aop .add .u64 a0.lo 1 = 0)))
      (some false)).bind fun c1 =>
  br c1
    (both
      (dup 1 <|
      some ((⟨a0.v6, aop .add .u64 a0.hi 1, aop .add .u64 a0.lo 1⟩ : Ad), !decide (aop .add .u64 a0.hi 1 = 0), ()))
      (some ((⟨a0.v6, aop .add .u64 a0.hi 1, aop .add .u64 a0.lo 1⟩ : Ad), !decide (aop .add .u64 a0.hi 1 = 0), ())))
    (both
      (br a0.v6
        (both
          (dup 1 <|
          some ((⟨a0.v6, a0.hi, aop .add .u64 a0.lo 1⟩ : Ad), true, ()))
          (some ((⟨a0.v6, a0.hi, aop .add .u64 a0.lo 1⟩ : Ad), true, ())))
        (dup 1 <|
        some ((⟨a0.v6, a0.hi, aop .add .u64 a0.lo 1⟩ : Ad), decide (aop .add .u64 a0.lo 1 < 4294967296), ())))
      (br a0.v6
        (some ((⟨a0.v6, a0.hi, aop .add .u64 a0.lo 1⟩ : Ad), true, ()))
        (some ((⟨a0.v6, a0.hi, aop .add .u64 a0.lo 1⟩ : Ad), decide (aop .add .u64 a0.lo 1 < 4294967296), ()))))

noncomputable def slices_Index___api_Addr_api_Addr__L2 (rec : (((Unit) × (Unit) × (Int × Unit) × (Int × Unit) × Unit) × (List Ad × (Ad × Unit) × Unit)) → Option ((((Int × Unit) × Unit) × (List Ad × Unit)) ⊕ ((Unit) × (List Ad × Unit)))) (x : (((Unit) × (Unit) × (Int × Unit) × (Int × Unit) × Unit) × (List Ad × (Ad × Unit) × Unit))) : Option ((((Int × Unit) × Unit) × (List Ad × Unit)) ⊕ ((Unit) × (List Ad × Unit))) :=
  let v0 := x.1.2.2.1.1
  let v1 := x.1.2.2.2.1.1
  let v2 := x.2.1
  let v3 := x.2.2.1.1
  br (decide (v1 < v0))
    (req (inRange v1 (lenL v2)) <|
    (geti v2 v1).bind fun p1 =>
    br (eqAd v3 p1)
      (some (Sum.inl (((v1, ()), ()), (v2, ()))))
      (req (i64ok (v1 + 1)) <|
      rec (((()), (()), (v0, ()), (v1 + 1, ()), ()), (v2, (v3, ()), ()))))
    (some (Sum.inr (((()), (v2, ())))))

/-- slices.Index[[]yardarm/api.Addr,yardarm/api.Addr] -/
noncomputable def slices_Index___api_Addr_api_Addr__t (a0 : List Ad) (a1 : Ad) : Option (Int × Unit) :=
  (loopN slices_Index___api_Addr_api_Addr__L2 FUEL (((()), (()), (lenL a0, ()), (0, ()), ()), (a0, (a1, ()), ()))).bind fun y1 =>
  sumC y1 (fun y2 =>
    some (y2.1.1.1, ())) (fun y3 =>
    some ((-1), ()))

/-- slices.Contains[[]yardarm/api.Addr,yardarm/api.Addr] -/
noncomputable def slices_Contains___api_Addr_api_Addr__t (a0 : List Ad) (a1 : Ad) : Option (Bool × Unit) :=
  (slices_Index___api_Addr_api_Addr__t a0 a1).bind fun y1 =>
  some (decide (y1.1 ≥ 0), ())

/-- (*yardarm/lease.book).taken$1 -/
noncomputable def m_lease_book__taken_1_t (a0 : Ls) (a1 : Ad) : Option (Bool × Unit) :=
  some (eqAd a0.ad a1, ())

noncomputable def m_lease_book__taken_slices_ContainsFunc___api_Lease_api_Lease__slices_IndexFunc___api_Lease_api_Lease__L2 (rec : (((Unit) × (Unit) × (Int × Unit) × (Int × Unit) × Unit) × ((Bool × Int × Int × Int × Unit) × List Ad × List Ls × (Ad × Unit) × Unit)) → Option ((((Int × Unit) × Unit) × ((Bool × Int × Int × Int × Unit) × List Ad × List Ls × (Ad × Unit) × Unit)) ⊕ ((Unit) × ((Bool × Int × Int × Int × Unit) × List Ad × List Ls × (Ad × Unit) × Unit)))) (x : (((Unit) × (Unit) × (Int × Unit) × (Int × Unit) × Unit) × ((Bool × Int × Int × Int × Unit) × List Ad × List Ls × (Ad × Unit) × Unit))) : Option ((((Int × Unit) × Unit) × ((Bool × Int × Int × Int × Unit) × List Ad × List Ls × (Ad × Unit) × Unit)) ⊕ ((Unit) × ((Bool × Int × Int × Int × Unit) × List Ad × List Ls × (Ad × Unit) × Unit))) :=
  let v0 := x.1.2.2.1.1
  let v1 := x.1.2.2.2.1.1
  let v2 := x.2.1.1
  let v3 := x.2.1.2.1
  let v4 := x.2.1.2.2.1
  let v5 := x.2.1.2.2.2.1
  let v6 := x.2.2.1
  let v7 := x.2.2.2.1
  let v8 := x.2.2.2.2.1.1
  br (decide (v1 < v0))
    (req (inRange v1 (lenL v7)) <|
    (geti v7 v1).bind fun p1 =>
    (m_lease_book__taken_1_t p1 v8).bind fun y2 =>
    br y2.1
      (some (Sum.inl (((v1, ()), ()), ((v2, v3, v4, v5, ()), v6, v7, (v8, ()), ()))))
      (req (i64ok (v1 + 1)) <|
      rec (((()), (()), (v0, ()), (v1 + 1, ()), ()), ((v2, v3, v4, v5, ()), v6, v7, (v8, ()), ()))))
    (some (Sum.inr (((()), ((v2, v3, v4, v5, ()), v6, v7, (v8, ()), ())))))

/-- (*yardarm/lease.book).taken -/
noncomputable def m_lease_book__taken_t (a0 : Pf) (a1 : List Ad) (a2 : List Ls) (a3 : Ad) : Option (Bool × Unit) :=
  (slices_Contains___api_Addr_api_Addr__t a1 a3).bind fun y1 =>
  (br y1.1
      (some true)
      (((loopN m_lease_book__taken_slices_ContainsFunc___api_Lease_api_Lease__slices_IndexFunc___api_Lease_api_Lease__L2 FUEL (((()), (()), (lenL a2, ()), (0, ()), ()), ((a0.ad.v6, a0.ad.hi, a0.ad.lo, a0.bits, ()), a1, a2, (a3, ()), ()))).bind fun y2 =>
        sumC y2 (fun y3 =>
          some (decide (y3.1.1.1 ≥ 0), ())) (fun y4 =>
          some (false, ()))).bind fun y5 =>
      some y5.1)).bind fun c2 =>
  some (c2, ())

/-- yardarm/lease.Raw$2 -/
noncomputable def lease_Raw_2_t (a0 : Ls) (a1 : Ls) : Option (Int × Unit) :=
  (addr_Order_t a0.ad a1.ad).bind fun y1 =>
  some (y1.1, ())

/-- yardarm/lease.Drop -/
noncomputable def lease_Drop_t (a0 : List Ls) (a1 : Int) : Option ((List Ls) × Int × Int × Unit) :=
  (lease_All_t a0 a1).bind fun y1 =>
  br (!decide (y1.1 = 0))
    (some (([] : List Ls), 0, y1.1, ()))
    ((lease_Live_t a0 a1).bind fun y2 =>
    req (i64ok ((lenL a0) - (lenL y2.1))) <|
    some (y2.1, (lenL a0) - (lenL y2.1), 0, ()))

/-- yardarm/yardarmref.CheckAddr -/
noncomputable def R_CheckAddr_t (a0 : Ad) : Option (Int × Unit) :=
  (br (!a0.v6)
      (br (decide (a0.hi > 0))
        (some true)
        (some (decide (a0.lo > 4294967295))))
      (some false)).bind fun c1 =>
  br c1
    (some (3, ()))
    (some (0, ()))

/-- yardarm/yardarmref.between -/
noncomputable def R_between_t (a0 : Int) (a1 : Int) (a2 : Int) : Option (Bool × Unit) :=
  (br (decide (a0 ≥ a1))
      (some (decide (a0 ≤ a2)))
      (some false)).bind fun c1 =>
  some (c1, ())

noncomputable def R_IsWho_L2 (rec : (((ByteArray × Unit) × (Int × Unit) × Unit) × (Unit)) → Option ((((Bool × Unit) × Unit) × (Unit)) ⊕ (((ByteArray × Unit) × Unit) × (Unit)))) (x : (((ByteArray × Unit) × (Int × Unit) × Unit) × (Unit))) : Option ((((Bool × Unit) × Unit) × (Unit)) ⊕ (((ByteArray × Unit) × Unit) × (Unit))) :=
  let v0 := x.1.1.1
  let v1 := x.1.2.1.1
  br (decide (v1 < lenS v0))
    (req (inRange v1 (lenS v0)) <|
    (R_between_t (convI .i64 (byteAt v0 v1)) 97 122).bind fun y1 =>
    (br (!y1.1)
        (req (inRange v1 (lenS v0)) <|
        (R_between_t (convI .i64 (byteAt v0 v1)) 48 57).bind fun y2 =>
        some (!y2.1))
        (some false)).bind fun c2 =>
    br c2
      (some (Sum.inl (((false, ()), ()), (()))))
      (req (i64ok (v1 + 1)) <|
      rec (((v0, ()), (v1 + 1, ()), ()), (()))))
    (some (Sum.inr ((((v0, ()), ()), (())))))

/-- yardarm/yardarmref.IsWho -/
noncomputable def R_IsWho_t (a0 : ByteArray) : Option (Bool × Unit) :=
  (loopN R_IsWho_L2 FUEL (((a0, ()), (0, ()), ()), (()))).bind fun y1 =>
  sumC y1 (fun y2 =>
    some (y2.1.1.1, ())) (fun y3 =>
    (R_between_t (lenS y3.1.1.1) 1 8).bind fun y4 =>
    some (y4.1, ()))

noncomputable def R_Bits_L3 (rec : (((Unit) × (Unit) × (Int × Unit) × Unit) × ((Ad × Unit) × List Int × Unit)) → Option (((Unit) × (Unit) × Unit) × ((Ad × Unit) × List Int × Unit))) (x : (((Unit) × (Unit) × (Int × Unit) × Unit) × ((Ad × Unit) × List Int × Unit))) : Option (((Unit) × (Unit) × Unit) × ((Ad × Unit) × List Int × Unit)) :=
  let v0 := x.1.2.2.1.1
  let v1 := x.2.1.1
  let v2 := x.2.2.1
  br (decide (v0 ≥ 0))
    (req (decide (0 ≤ v0)) <|
    req (room (lenL v2) (lenL ([convI .u8 (aop .add .u64 48 (aop .rem .u64 (aop .shr .u64 v1.hi v0) 2))] : List Int))) <|
    req (i64ok (v0 - 1)) <|
    rec (((()), (()), (v0 - 1, ()), ()), ((v1, ()), v2 ++ ([convI .u8 (aop .add .u64 48 (aop .rem .u64 (aop .shr .u64 v1.hi v0) 2))] : List Int), ())))
    (some (((()), (()), ()), ((v1, ()), v2, ())))

noncomputable def R_Bits_L7 (rec : (((Unit) × (Unit) × (Int × Unit) × Unit) × ((Ad × Unit) × List Int × Unit)) → Option (((Unit) × (Unit) × Unit) × ((Ad × Unit) × List Int × Unit))) (x : (((Unit) × (Unit) × (Int × Unit) × Unit) × ((Ad × Unit) × List Int × Unit))) : Option (((Unit) × (Unit) × Unit) × ((Ad × Unit) × List Int × Unit)) :=
  let v0 := x.1.2.2.1.1
  let v1 := x.2.1.1
  let v2 := x.2.2.1
  br (decide (v0 ≥ 0))
    (req (decide (0 ≤ v0)) <|
    req (room (lenL v2) (lenL ([convI .u8 (aop .add .u64 48 (aop .rem .u64 (aop .shr .u64 v1.lo v0) 2))] : List Int))) <|
    req (i64ok (v0 - 1)) <|
    rec (((()), (()), (v0 - 1, ()), ()), ((v1, ()), v2 ++ ([convI .u8 (aop .add .u64 48 (aop .rem .u64 (aop .shr .u64 v1.lo v0) 2))] : List Int), ())))
    (some (((()), (()), ()), ((v1, ()), v2, ())))

/-- yardarm/yardarmref.Bits -/
noncomputable def R_Bits_t (a0 : Ad) : Option (ByteArray × Unit) :=
  (loopN R_Bits_L3 FUEL (((()), (()), (63, ()), ()), ((a0, ()), ([] : List Int), ()))).bind fun y1 =>
  (loopN R_Bits_L7 FUEL (((()), (()), (63, ()), ()), ((y1.2.1.1, ()), y1.2.2.1, ()))).bind fun y2 =>
  br (!y2.2.1.1.v6)
    (req ((decide (96 ≤ lenL y2.2.2.1)) && (decide (lenL y2.2.2.1 ≤ lenL y2.2.2.1))) <|
    some (bytesOf (subL y2.2.2.1 96 (lenL y2.2.2.1)), ()))
    (some (bytesOf y2.2.2.1, ()))

noncomputable def R_IsAhead_L5 (rec : (((ByteArray × Unit) × (ByteArray × Unit) × (Int × Unit) × Unit) × (Unit)) → Option ((((Bool × Unit) × Unit) × (Unit)) ⊕ ((Unit) × (Unit)))) (x : (((ByteArray × Unit) × (ByteArray × Unit) × (Int × Unit) × Unit) × (Unit))) : Option ((((Bool × Unit) × Unit) × (Unit)) ⊕ ((Unit) × (Unit))) :=
  let v0 := x.1.1.1
  let v1 := x.1.2.1.1
  let v2 := x.1.2.2.1.1
  br (decide (v2 < lenS v0))
    (req (inRange v2 (lenS v0)) <|
    req (inRange v2 (lenS v1)) <|
    br (!decide (byteAt v0 v2 = byteAt v1 v2))
      (req (inRange v2 (lenS v0)) <|
      req (inRange v2 (lenS v1)) <|
      some (Sum.inl (((decide (byteAt v0 v2 < byteAt v1 v2), ()), ()), (()))))
      (req (i64ok (v2 + 1)) <|
      rec (((v0, ()), (v1, ()), (v2 + 1, ()), ()), (()))))
    (some (Sum.inr (((()), (())))))

/-- yardarm/yardarmref.IsAhead -/
noncomputable def R_IsAhead_t (a0 : Ad) (a1 : Ad) : Option (Bool × Unit) :=
  br (!(beqB a0.v6 a1.v6))
    (some (a1.v6, ()))
    ((R_Bits_t a0).bind fun y1 =>
    (R_Bits_t a1).bind fun y2 =>
    (loopN R_IsAhead_L5 FUEL (((y1.1, ()), (y2.1, ()), (0, ()), ()), (()))).bind fun y3 =>
    sumC y3 (fun y4 =>
      some (y4.1.1.1, ())) (fun y5 =>
      some (false, ())))

noncomputable def R_CheckLeases_L4 (rec : (((Unit) × (Int × Unit) × (Int × Unit) × Unit) × (List Ls × Unit)) → Option ((((Int × Unit) × Unit) × (List Ls × Unit)) ⊕ (((Unit) × (Int × Unit) × Unit) × (List Ls × Unit)))) (x : (((Unit) × (Int × Unit) × (Int × Unit) × Unit) × (List Ls × Unit))) : Option ((((Int × Unit) × Unit) × (List Ls × Unit)) ⊕ (((Unit) × (Int × Unit) × Unit) × (List Ls × Unit))) :=
  let v0 := x.1.2.1.1
  let v1 := x.1.2.2.1.1
  let v2 := x.2.1
  br (decide (v1 < lenL v2))
    (req (inRange v1 (lenL v2)) <|
    req (inRange v1 (lenL v2)) <|
    (geti v2 v1).bind fun p1 =>
    (R_CheckAddr_t p1.ad).bind fun y2 =>
    br (!decide (y2.1 = 0))
      (some (Sum.inl (((y2.1, ()), ()), (v2, ()))))
      (req (inRange v1 (lenL v2)) <|
      req (inRange v1 (lenL v2)) <|
      (geti v2 v1).bind fun p3 =>
      (R_IsWho_t p3.who).bind fun y4 =>
      br (!y4.1)
        (some (Sum.inl (((1, ()), ()), (v2, ()))))
        (req (inRange v1 (lenL v2)) <|
        req (inRange v1 (lenL v2)) <|
        (geti v2 v1).bind fun p5 =>
        (R_between_t p5.upto 0 10499).bind fun y6 =>
        br (!y6.1)
          (some (Sum.inl (((3, ()), ()), (v2, ()))))
          (req (i64ok (v1 + 1)) <|
          rec (((()), (v0, ()), (v1 + 1, ()), ()), (v2, ()))))))
    (some (Sum.inr ((((()), (v0, ()), ()), (v2, ())))))

noncomputable def R_CheckLeases_L14 (rec : (((Unit) × (Int × Unit) × (Int × Unit) × Unit) × (List Ls × Unit)) → Option ((((Int × Unit) × Unit) × (List Ls × Unit)) ⊕ (((Int × Unit) × Unit) × (List Ls × Unit)))) (x : (((Unit) × (Int × Unit) × (Int × Unit) × Unit) × (List Ls × Unit))) : Option ((((Int × Unit) × Unit) × (List Ls × Unit)) ⊕ (((Int × Unit) × Unit) × (List Ls × Unit))) :=
  let v0 := x.1.2.1.1
  let v1 := x.1.2.2.1.1
  let v2 := x.2.1
  br (decide (v1 < lenL v2))
    (req (i64ok (v1 - 1)) <|
    req (inRange (v1 - 1) (lenL v2)) <|
    req (inRange (v1 - 1) (lenL v2)) <|
    (geti v2 (v1 - 1)).bind fun p1 =>
    req (inRange v1 (lenL v2)) <|
    req (inRange v1 (lenL v2)) <|
    (geti v2 v1).bind fun p2 =>
    (R_IsAhead_t p1.ad p2.ad).bind fun y3 =>
    br (!y3.1)
      (some (Sum.inl (((4, ()), ()), (v2, ()))))
      (req (i64ok (v1 + 1)) <|
      rec (((()), (v0, ()), (v1 + 1, ()), ()), (v2, ()))))
    (some (Sum.inr ((((v0, ()), ()), (v2, ())))))

/-- yardarm/yardarmref.CheckLeases -/
noncomputable def R_CheckLeases_t (a0 : List Ls) (a1 : Int) : Option (Int × Unit) :=
  br (decide (lenL a0 > 20))
    (some (2, ()))
    ((loopN R_CheckLeases_L4 FUEL (((()), (a1, ()), (0, ()), ()), (a0, ()))).bind fun y1 =>
    sumC y1 (fun y2 =>
      some (y2.1.1.1, ())) (fun y3 =>
      (loopN R_CheckLeases_L14 FUEL (((()), (y3.1.2.1.1, ()), (1, ()), ()), (y3.2.1, ()))).bind fun y4 =>
      sumC y4 (fun y5 =>
        some (y5.1.1.1, ())) (fun y6 =>
        (R_between_t y6.1.1.1 0 9999).bind fun y7 =>
        br (!y7.1)
          (some (3, ()))
          (some (0, ())))))

/-- yardarm/yardarmref.wide -/
noncomputable def R_wide_t (a0 : Ad) : Option (Int × Unit) :=
  br a0.v6
    (some (128, ()))
    (some (32, ()))

noncomputable def R_CheckPrefix_L8 (rec : (((ByteArray × Unit) × (Int × Unit) × Unit) × (Unit)) → Option ((((Int × Unit) × Unit) × (Unit)) ⊕ ((Unit) × (Unit)))) (x : (((ByteArray × Unit) × (Int × Unit) × Unit) × (Unit))) : Option ((((Int × Unit) × Unit) × (Unit)) ⊕ ((Unit) × (Unit))) :=
  let v0 := x.1.1.1
  let v1 := x.1.2.1.1
  br (decide (v1 < lenS v0))
    (req (inRange v1 (lenS v0)) <|
    br (!decide (byteAt v0 v1 = 48))
      (some (Sum.inl (((4, ()), ()), (()))))
      (req (i64ok (v1 + 1)) <|
      rec (((v0, ()), (v1 + 1, ()), ()), (()))))
    (some (Sum.inr (((()), (())))))

/-- yardarm/yardarmref.CheckPrefix -/
noncomputable def R_CheckPrefix_t (a0 : Pf) : Option (Int × Unit) :=
  (R_CheckAddr_t a0.ad).bind fun y1 =>
  br (!decide (y1.1 = 0))
    (some (y1.1, ()))
    ((R_wide_t a0.ad).bind fun y2 =>
    (R_between_t a0.bits 0 y2.1).bind fun y3 =>
    br (!y3.1)
      (some (3, ()))
      ((R_Bits_t a0.ad).bind fun y4 =>
      (loopN R_CheckPrefix_L8 FUEL (((y4.1, ()), (a0.bits, ()), ()), (()))).bind fun y5 =>
      sumC y5 (fun y6 =>
        some (y6.1.1.1, ())) (fun y7 =>
        some (0, ()))))

/-- yardarm/yardarmref.IsNarrow -/
noncomputable def R_IsNarrow_t (a0 : Pf) : Option (Bool × Unit) :=
  (R_wide_t a0.ad).bind fun y1 =>
  req (i64ok (y1.1 - a0.bits)) <|
  some (decide (y1.1 - a0.bits ≤ 4), ())

/-- yardarm/yardarmref.HasAddr -/
noncomputable def R_HasAddr_t (a0 : Pf) (a1 : Ad) : Option (Bool × Unit) :=
  (br (beqB a0.ad.v6 a1.v6)
      ((R_Bits_t a0.ad).bind fun y1 =>
      req ((decide (0 ≤ a0.bits)) && (decide (a0.bits ≤ lenS y1.1))) <|
      (R_Bits_t a1).bind fun y2 =>
      req ((decide (0 ≤ a0.bits)) && (decide (a0.bits ≤ lenS y2.1))) <|
      some (strcmp .eql (subS y1.1 0 a0.bits) (subS y2.1 0 a0.bits)))
      (some false)).bind fun c1 =>
  some (c1, ())

noncomputable def R_CheckPool_L7 (rec : (((Unit) × (Int × Unit) × Unit) × (List Ad × (Bool × Int × Int × Int × Unit) × Unit)) → Option ((((Int × Unit) × Unit) × (List Ad × Unit)) ⊕ ((Unit) × (List Ad × Unit)))) (x : (((Unit) × (Int × Unit) × Unit) × (List Ad × (Bool × Int × Int × Int × Unit) × Unit))) : Option ((((Int × Unit) × Unit) × (List Ad × Unit)) ⊕ ((Unit) × (List Ad × Unit))) :=
  let v0 := x.1.2.1.1
  let v1 := x.2.1
  let v2 := x.2.2.1.1
  let v3 := x.2.2.1.2.1
  let v4 := x.2.2.1.2.2.1
  let v5 := x.2.2.1.2.2.2.1
  br (decide (v0 < lenL v1))
    (req (inRange v0 (lenL v1)) <|
    (geti v1 v0).bind fun p1 =>
    (R_CheckAddr_t p1).bind fun y2 =>
    br (!decide (y2.1 = 0))
      (some (Sum.inl (((y2.1, ()), ()), (v1, ()))))
      (req (inRange v0 (lenL v1)) <|
      (geti v1 v0).bind fun p3 =>
      (R_HasAddr_t (⟨(⟨v2, v3, v4⟩ : Ad), v5⟩ : Pf) p3).bind fun y4 =>
      br (!y4.1)
        (some (Sum.inl (((5, ()), ()), (v1, ()))))
        ((br (decide (v0 > 0))
            (req (i64ok (v0 - 1)) <|
            req (inRange (v0 - 1) (lenL v1)) <|
            (geti v1 (v0 - 1)).bind fun p5 =>
            req (inRange v0 (lenL v1)) <|
            (geti v1 v0).bind fun p6 =>
            (R_IsAhead_t p5 p6).bind fun y7 =>
            some (!y7.1))
            (some false)).bind fun c5 =>
        br c5
          (some (Sum.inl (((4, ()), ()), (v1, ()))))
          (req (i64ok (v0 + 1)) <|
          rec (((()), (v0 + 1, ()), ()), (v1, (v2, v3, v4, v5, ()), ()))))))
    (some (Sum.inr (((()), (v1, ())))))

/-- yardarm/yardarmref.CheckPool -/
noncomputable def R_CheckPool_t (a0 : Pf) (a1 : List Ad) : Option (Int × Unit) :=
  (R_CheckPrefix_t a0).bind fun y1 =>
  br (!decide (y1.1 = 0))
    (some (y1.1, ()))
    ((R_IsNarrow_t a0).bind fun y2 =>
    (br (!y2.1)
        (some true)
        (some (decide (lenL a1 > 6)))).bind fun c3 =>
    br c3
      (some (2, ()))
      ((loopN R_CheckPool_L7 FUEL (((()), (0, ()), ()), (a1, (a0.ad.v6, a0.ad.hi, a0.ad.lo, a0.bits, ()), ()))).bind fun y4 =>
      sumC y4 (fun y5 =>
        some (y5.1.1.1, ())) (fun y6 =>
        some (0, ()))))

noncomputable def R_WhoAt_L2 (rec : (((Unit) × (ByteArray × Unit) × (Int × Unit) × Unit) × (List Ls × Unit)) → Option ((((Int × Unit) × Unit) × (List Ls × Unit)) ⊕ ((Unit) × (List Ls × Unit)))) (x : (((Unit) × (ByteArray × Unit) × (Int × Unit) × Unit) × (List Ls × Unit))) : Option ((((Int × Unit) × Unit) × (List Ls × Unit)) ⊕ ((Unit) × (List Ls × Unit))) :=
  let v0 := x.1.2.1.1
  let v1 := x.1.2.2.1.1
  let v2 := x.2.1
  br (decide (v1 < lenL v2))
    (req (inRange v1 (lenL v2)) <|
    req (inRange v1 (lenL v2)) <|
    (geti v2 v1).bind fun p1 =>
    br (strcmp .eql p1.who v0)
      (some (Sum.inl (((v1, ()), ()), (v2, ()))))
      (req (i64ok (v1 + 1)) <|
      rec (((()), (v0, ()), (v1 + 1, ()), ()), (v2, ()))))
    (some (Sum.inr (((()), (v2, ())))))

/-- yardarm/yardarmref.WhoAt -/
noncomputable def R_WhoAt_t (a0 : List Ls) (a1 : ByteArray) : Option (Int × Unit) :=
  (loopN R_WhoAt_L2 FUEL (((()), (a1, ()), (0, ()), ()), (a0, ()))).bind fun y1 =>
  sumC y1 (fun y2 =>
    some (y2.1.1.1, ())) (fun y3 =>
    some ((-1), ()))

noncomputable def R_CheckOf_L5 (rec : (((Unit) × (Unit) × (Int × Unit) × (Int × Unit) × Unit) × (List Ad × List Ls × (Bool × Int × Int × Int × Unit) × Unit)) → Option (((Int × Unit) × Unit) × (List Ad × List Ls × Unit))) (x : (((Unit) × (Unit) × (Int × Unit) × (Int × Unit) × Unit) × (List Ad × List Ls × (Bool × Int × Int × Int × Unit) × Unit))) : Option (((Int × Unit) × Unit) × (List Ad × List Ls × Unit)) :=
  let v0 := x.1.2.2.1.1
  let v1 := x.1.2.2.2.1.1
  let v2 := x.2.1
  let v3 := x.2.2.1
  let v4 := x.2.2.2.1.1
  let v5 := x.2.2.2.1.2.1
  let v6 := x.2.2.2.1.2.2.1
  let v7 := x.2.2.2.1.2.2.2.1
  (br (decide (v1 < lenL v3))
      (some (decide (v0 = 0)))
      (some false)).bind fun c1 =>
  br c1
    (req (inRange v1 (lenL v3)) <|
    req (inRange v1 (lenL v3)) <|
    (geti v3 v1).bind fun p2 =>
    (R_HasAddr_t (⟨(⟨v4, v5, v6⟩ : Ad), v7⟩ : Pf) p2.ad).bind fun y3 =>
    br (!y3.1)
      (req (i64ok (v1 + 1)) <|
      rec (((()), (()), (5, ()), (v1 + 1, ()), ()), (v2, v3, (v4, v5, v6, v7, ()), ())))
      (both
        (req ((decide (0 ≤ v1)) && (decide (v1 ≤ lenL v3))) <|
        req (inRange v1 (lenL v3)) <|
        req (inRange v1 (lenL v3)) <|
        (geti v3 v1).bind fun p4 =>
        (R_WhoAt_t (subL v3 0 v1) p4.who).bind fun y5 =>
        br (decide (y5.1 ≥ 0))
          (req (i64ok (v1 + 1)) <|
          rec (((()), (()), (6, ()), (v1 + 1, ()), ()), (v2, v3, (v4, v5, v6, v7, ()), ())))
          (req (i64ok (v1 + 1)) <|
          rec (((()), (()), (v0, ()), (v1 + 1, ()), ()), (v2, v3, (v4, v5, v6, v7, ()), ()))))
        (req (inRange v1 (lenL v3)) <|
        both
          (req ((decide (0 ≤ v1)) && (decide (v1 ≤ lenL v3))) <|
          req (inRange v1 (lenL v3)) <|
          (geti v3 v1).bind fun p4 =>
          (R_WhoAt_t (subL v3 0 v1) p4.who).bind fun y5 =>
          br (decide (y5.1 ≥ 0))
            (req (i64ok (v1 + 1)) <|
            rec (((()), (()), (6, ()), (v1 + 1, ()), ()), (v2, v3, (v4, v5, v6, v7, ()), ())))
            (req (i64ok (v1 + 1)) <|
            rec (((()), (()), (v0, ()), (v1 + 1, ()), ()), (v2, v3, (v4, v5, v6, v7, ()), ()))))
          (req (inRange v1 (lenL v3)) <|
          both
            (req ((decide (0 ≤ v1)) && (decide (v1 ≤ lenL v3))) <|
            (geti v3 v1).bind fun p4 =>
            (R_WhoAt_t (subL v3 0 v1) p4.who).bind fun y5 =>
            br (decide (y5.1 ≥ 0))
              (req (i64ok (v1 + 1)) <|
              rec (((()), (()), (6, ()), (v1 + 1, ()), ()), (v2, v3, (v4, v5, v6, v7, ()), ())))
              (req (i64ok (v1 + 1)) <|
              rec (((()), (()), (v0, ()), (v1 + 1, ()), ()), (v2, v3, (v4, v5, v6, v7, ()), ()))))
            ((geti v3 v1).bind fun p4 =>
            req ((decide (0 ≤ v1)) && (decide (v1 ≤ lenL v3))) <|
            (R_WhoAt_t (subL v3 0 v1) p4.who).bind fun y5 =>
            br (decide (y5.1 ≥ 0))
              (req (i64ok (v1 + 1)) <|
              rec (((()), (()), (6, ()), (v1 + 1, ()), ()), (v2, v3, (v4, v5, v6, v7, ()), ())))
              (req (i64ok (v1 + 1)) <|
              rec (((()), (()), (v0, ()), (v1 + 1, ()), ()), (v2, v3, (v4, v5, v6, v7, ()), ()))))))))
    (some (((v0, ()), ()), (v2, v3, ())))

/-- yardarm/yardarmref.CheckOf -/
noncomputable def R_CheckOf_t (a0 : Pf) (a1 : List Ad) (a2 : List Ls) (a3 : Int) : Option (Int × Unit) :=
  (R_CheckPool_t a0 a1).bind fun y1 =>
  br (decide (y1.1 = 0))
    ((R_CheckLeases_t a2 a3).bind fun y2 =>
    (loopN R_CheckOf_L5 FUEL (((()), (()), (y2.1, ()), (0, ()), ()), (a1, a2, (a0.ad.v6, a0.ad.hi, a0.ad.lo, a0.bits, ()), ()))).bind fun y3 =>
    some (y3.1.1.1, ()))
    ((loopN R_CheckOf_L5 FUEL (((()), (()), (y1.1, ()), (0, ()), ()), (a1, a2, (a0.ad.v6, a0.ad.hi, a0.ad.lo, a0.bits, ()), ()))).bind fun y2 =>
    some (y2.1.1.1, ()))

noncomputable def R_LiveOf_L3 (rec : (((Unit) × (Int × Unit) × (Unit) × (Int × Unit) × Unit) × (List Ls × List Ls × Unit)) → Option (((Unit) × Unit) × (List Ls × List Ls × Unit))) (x : (((Unit) × (Int × Unit) × (Unit) × (Int × Unit) × Unit) × (List Ls × List Ls × Unit))) : Option (((Unit) × Unit) × (List Ls × List Ls × Unit)) :=
  let v0 := x.1.2.1.1
  let v1 := x.1.2.2.2.1.1
  let v2 := x.2.1
  let v3 := x.2.2.1
  br (decide (v1 < lenL v2))
    (req (inRange v1 (lenL v2)) <|
    req (inRange v1 (lenL v2)) <|
    (geti v2 v1).bind fun p1 =>
    br (decide (p1.upto ≥ v0))
      (req (inRange v1 (lenL v2)) <|
      (geti v2 v1).bind fun p2 =>
      req (room (lenL v3) (lenL ([p2] : List Ls))) <|
      req (i64ok (v1 + 1)) <|
      rec (((()), (v0, ()), (()), (v1 + 1, ()), ()), (v2, v3 ++ ([p2] : List Ls), ())))
      (req (i64ok (v1 + 1)) <|
      rec (((()), (v0, ()), (()), (v1 + 1, ()), ()), (v2, v3, ()))))
    (some (((()), ()), (v2, v3, ())))

/-- yardarm/yardarmref.LiveOf -/
noncomputable def R_LiveOf_t (a0 : List Ls) (a1 : Int) : Option ((List Ls) × Unit) :=
  (loopN R_LiveOf_L3 FUEL (((()), (a1, ()), (()), (0, ()), ()), (a0, ([] : List Ls), ()))).bind fun y1 =>
  some (y1.2.2.1, ())

noncomputable def R_hasAddr_L2 (rec : (((Unit) × (Unit) × (Int × Unit) × Unit) × (List Ad × (Ad × Unit) × Unit)) → Option ((((Bool × Unit) × Unit) × (List Ad × Unit)) ⊕ ((Unit) × (List Ad × Unit)))) (x : (((Unit) × (Unit) × (Int × Unit) × Unit) × (List Ad × (Ad × Unit) × Unit))) : Option ((((Bool × Unit) × Unit) × (List Ad × Unit)) ⊕ ((Unit) × (List Ad × Unit))) :=
  let v0 := x.1.2.2.1.1
  let v1 := x.2.1
  let v2 := x.2.2.1.1
  br (decide (v0 < lenL v1))
    (req (inRange v0 (lenL v1)) <|
    (geti v1 v0).bind fun p1 =>
    br (eqAd p1 v2)
      (some (Sum.inl (((true, ()), ()), (v1, ()))))
      (req (i64ok (v0 + 1)) <|
      rec (((()), (()), (v0 + 1, ()), ()), (v1, (v2, ()), ()))))
    (some (Sum.inr (((()), (v1, ())))))

/-- yardarm/yardarmref.hasAddr -/
noncomputable def R_hasAddr_t (a0 : List Ad) (a1 : Ad) : Option (Bool × Unit) :=
  (loopN R_hasAddr_L2 FUEL (((()), (()), (0, ()), ()), (a0, (a1, ()), ()))).bind fun y1 =>
  sumC y1 (fun y2 =>
    some (y2.1.1.1, ())) (fun y3 =>
    some (false, ()))

noncomputable def R_AddrOf_L3 (rec : (((ByteArray × Unit) × (Unit) × (Unit) × (Int × Unit) × Unit) × ((Ad × Unit) × (Ad × Unit) × Unit)) → Option (((Unit) × (Unit) × Unit) × ((Ad × Unit) × (Ad × Unit) × Unit))) (x : (((ByteArray × Unit) × (Unit) × (Unit) × (Int × Unit) × Unit) × ((Ad × Unit) × (Ad × Unit) × Unit))) : Option (((Unit) × (Unit) × Unit) × ((Ad × Unit) × (Ad × Unit) × Unit)) :=
  let v0 := x.1.1.1
  let v1 := x.1.2.2.2.1.1
  let v2 := x.2.1.1
  let v3 := x.2.2.1.1
  br (decide (v1 < lenS v0))
    (req (inRange v1 (lenS v0)) <|
    req (i64ok ((lenS v0) - v1)) <|
    br (decide ((lenS v0) - v1 > 64))
      (req (i64ok (v1 + 1)) <|
      rec (((v0, ()), (()), (()), (v1 + 1, ()), ()), ((v2, ()), ((⟨v3.v6, aop .add .u64 (aop .mul .u64 2 v3.hi) (convI .u64 (aop .sub .u8 (byteAt v0 v1) 48)), v3.lo⟩ : Ad), ()), ())))
      (req (i64ok (v1 + 1)) <|
      rec (((v0, ()), (()), (()), (v1 + 1, ()), ()), ((v2, ()), ((⟨v3.v6, v3.hi, aop .add .u64 (aop .mul .u64 2 v3.lo) (convI .u64 (aop .sub .u8 (byteAt v0 v1) 48))⟩ : Ad), ()), ()))))
    (some (((()), (()), ()), ((v2, ()), (v3, ()), ())))

/-- yardarm/yardarmref.AddrOf -/
noncomputable def R_AddrOf_t (a0 : ByteArray) : Option (Ad × Unit) :=
  (loopN R_AddrOf_L3 FUEL (((a0, ()), (()), (()), (0, ()), ()), (((⟨false, 0, 0⟩ : Ad), ()), ((⟨decide (lenS a0 = 128), 0, 0⟩ : Ad), ()), ()))).bind fun y1 =>
  some (y1.2.2.1.1, ())

/-- yardarm/yardarmlaw.v4 -/
noncomputable def law_v4_t (a0 : Int) : Option (Ad × Unit) :=
  some ((⟨false, 0, a0⟩ : Ad), ())

/-- yardarm/yardarmlaw.net -/
noncomputable def law_net_t (a0 : Int) (a1 : Int) : Option (Pf × Unit) :=
  (law_v4_t a0).bind fun y1 =>
  some ((⟨y1.1, a1⟩ : Pf), ())

/-- yardarm/yardarmlaw.quad -/
noncomputable def law_quad_t : Option ((Pf × (List Ad) × Unit) × Unit) :=
  (law_net_t 8 30).bind fun y1 =>
  (law_v4_t 8).bind fun y2 =>
  some ((y1.1, ([y2.1] : List Ad), ()), ())

noncomputable def R_SameLeases_L4 (rec : (((Unit) × (Unit) × (Int × Unit) × Unit) × (List Ls × List Ls × Unit)) → Option ((((Bool × Unit) × Unit) × (List Ls × List Ls × Unit)) ⊕ ((Unit) × (List Ls × List Ls × Unit)))) (x : (((Unit) × (Unit) × (Int × Unit) × Unit) × (List Ls × List Ls × Unit))) : Option ((((Bool × Unit) × Unit) × (List Ls × List Ls × Unit)) ⊕ ((Unit) × (List Ls × List Ls × Unit))) :=
  let v0 := x.1.2.2.1.1
  let v1 := x.2.1
  let v2 := x.2.2.1
  br (decide (v0 < lenL v1))
    (req (inRange v0 (lenL v1)) <|
    (geti v1 v0).bind fun p1 =>
    req (inRange v0 (lenL v2)) <|
    (geti v2 v0).bind fun p2 =>
    br (!(eqLs p1 p2))
      (some (Sum.inl (((false, ()), ()), (v1, v2, ()))))
      (req (i64ok (v0 + 1)) <|
      rec (((()), (()), (v0 + 1, ()), ()), (v1, v2, ()))))
    (some (Sum.inr (((()), (v1, v2, ())))))

/-- yardarm/yardarmref.SameLeases -/
noncomputable def R_SameLeases_t (a0 : List Ls) (a1 : List Ls) : Option (Bool × Unit) :=
  br (!decide (lenL a0 = lenL a1))
    (some (false, ()))
    ((loopN R_SameLeases_L4 FUEL (((()), (()), (0, ()), ()), (a0, a1, ()))).bind fun y1 =>
    sumC y1 (fun y2 =>
      some (y2.1.1.1, ())) (fun y3 =>
      some (true, ())))

/-- yardarm/yardarmlaw.leasesAre -/
noncomputable def law_leasesAre_t (a0 : List Ls) (a1 : Int) (a2 : Int) (a3 : List Ls) : Option (Bool × Unit) :=
  br (!decide (a2 = 0))
    ((br (decide (a1 = a2))
        ((R_SameLeases_t a0 ([] : List Ls)).bind fun y1 =>
        some y1.1)
        (some false)).bind fun c1 =>
    some (c1, ()))
    ((br (decide (a1 = a2))
        ((R_SameLeases_t a0 a3).bind fun y1 =>
        some y1.1)
        (some false)).bind fun c1 =>
    some (c1, ()))

end Go.Ma
