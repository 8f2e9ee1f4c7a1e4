/-
  The plain forms of the program's functions, as the machine runs them: those that hang on the contracts made by hand. Written by a program of mine.
-/
import Derived.Test.YthmdbgejdeblnaaGreatDoorQc
import Derived.Test.YthmdbgejdeblnaaGreatDoorHe
namespace Go.Ma
open Go
noncomputable def lease_Check_L7 (rec : (((Unit) × (Unit) × (Unit) × (Int × Unit) × (Int × Unit) × Unit) × (List Ad × List Ls × (Bool × Int × Int × Int × Unit) × Unit)) → Option ((((Int × Unit) × Unit) × (List Ad × List Ls × Unit)) ⊕ ((Unit) × (List Ad × List Ls × Unit)))) (x : (((Unit) × (Unit) × (Unit) × (Int × Unit) × (Int × Unit) × Unit) × (List Ad × List Ls × (Bool × Int × Int × Int × Unit) × Unit))) : Option ((((Int × Unit) × Unit) × (List Ad × List Ls × Unit)) ⊕ ((Unit) × (List Ad × List Ls × Unit))) :=
  let v0 := x.1.2.2.2.1.1
  let v1 := x.1.2.2.2.2.1.1
  let v2 := x.2.1
  let v3 := x.2.2.1
  let v4 := x.2.2.2.1.1
  let v5 := x.2.2.2.1.2.1
  let v6 := x.2.2.2.1.2.2.1
  let v7 := x.2.2.2.1.2.2.2.1
  br (decide (v1 < v0))
    (req (inRange v1 (lenL v3)) <|
    (geti v3 v1).bind fun p1 =>
    (prefix_Holds_t (⟨(⟨v4, v5, v6⟩ : Ad), v7⟩ : Pf) p1.ad).bind fun y2 =>
    br (!y2.1)
      (some (Sum.inl (((5, ()), ()), (v2, v3, ()))))
      (req (i64ok (v1 + 1)) <|
      req ((decide (0 ≤ v1 + 1)) && (decide (v1 + 1 ≤ lenL v3))) <|
      (lease_Twice_t (subL v3 0 (v1 + 1))).bind fun y3 =>
      br y3.1
        (some (Sum.inl (((6, ()), ()), (v2, v3, ()))))
        (req (i64ok (v1 + 1)) <|
        rec (((()), (()), (()), (v0, ()), (v1 + 1, ()), ()), (v2, v3, (v4, v5, v6, v7, ()), ())))))
    (some (Sum.inr (((()), (v2, v3, ())))))

/-- yardarm/lease.Check -/
noncomputable def lease_Check_t (a0 : Pf) (a1 : List Ad) (a2 : List Ls) (a3 : Int) : Option (Int × Unit) :=
  (lease_Pool_t a0 a1).bind fun y1 =>
  br (decide (y1.1 = 0))
    ((lease_All_t a2 a3).bind fun y2 =>
    br (!decide (y2.1 = 0))
      (some (y2.1, ()))
      ((loopN lease_Check_L7 FUEL (((()), (()), (()), (lenL a2, ()), (0, ()), ()), (a1, a2, (a0.ad.v6, a0.ad.hi, a0.ad.lo, a0.bits, ()), ()))).bind fun y3 =>
      sumC y3 (fun y4 =>
        some (y4.1.1.1, ())) (fun y5 =>
        some (0, ()))))
    (br (!decide (y1.1 = 0))
      (some (y1.1, ()))
      ((loopN lease_Check_L7 FUEL (((()), (()), (()), (lenL a2, ()), (0, ()), ()), (a1, a2, (a0.ad.v6, a0.ad.hi, a0.ad.lo, a0.bits, ()), ()))).bind fun y2 =>
      sumC y2 (fun y3 =>
        some (y3.1.1.1, ())) (fun y4 =>
        some (0, ()))))

noncomputable def lease_Raw_slices_IndexFunc___api_Lease_api_Lease__L2 (rec : (((Unit) × (Unit) × (Int × Unit) × (Int × Unit) × Unit) × (List Ad × List Ls × (Bool × Int × Int × Int × Unit) × (ByteArray × Unit) × List Ls × (Ad × Unit) × List Ls × (Bool × Int × Int × Int × Unit) × Unit)) → Option ((((Int × Unit) × Unit) × (List Ad × List Ls × (Bool × Int × Int × Int × Unit) × (ByteArray × Unit) × List Ls × (Ad × Unit) × List Ls × (Bool × Int × Int × Int × Unit) × Unit)) ⊕ ((Unit) × (List Ad × List Ls × (Bool × Int × Int × Int × Unit) × (ByteArray × Unit) × List Ls × (Ad × Unit) × List Ls × (Bool × Int × Int × Int × Unit) × Unit)))) (x : (((Unit) × (Unit) × (Int × Unit) × (Int × Unit) × Unit) × (List Ad × List Ls × (Bool × Int × Int × Int × Unit) × (ByteArray × Unit) × List Ls × (Ad × Unit) × List Ls × (Bool × Int × Int × Int × Unit) × Unit))) : Option ((((Int × Unit) × Unit) × (List Ad × List Ls × (Bool × Int × Int × Int × Unit) × (ByteArray × Unit) × List Ls × (Ad × Unit) × List Ls × (Bool × Int × Int × Int × Unit) × Unit)) ⊕ ((Unit) × (List Ad × List Ls × (Bool × Int × Int × Int × Unit) × (ByteArray × Unit) × List Ls × (Ad × Unit) × List Ls × (Bool × Int × Int × Int × Unit) × Unit))) :=
  let v0 := x.1.2.2.1.1
  let v1 := x.1.2.2.2.1.1
  let v2 := x.2.1
  let v3 := x.2.2.1
  let v4 := x.2.2.2.1.1
  let v5 := x.2.2.2.1.2.1
  let v6 := x.2.2.2.1.2.2.1
  let v7 := x.2.2.2.1.2.2.2.1
  let v8 := x.2.2.2.2.1.1
  let v9 := x.2.2.2.2.2.1
  let v10 := x.2.2.2.2.2.2.1.1
  let v11 := x.2.2.2.2.2.2.2.1
  let v12 := x.2.2.2.2.2.2.2.2.1.1
  let v13 := x.2.2.2.2.2.2.2.2.1.2.1
  let v14 := x.2.2.2.2.2.2.2.2.1.2.2.1
  let v15 := x.2.2.2.2.2.2.2.2.1.2.2.2.1
  br (decide (v1 < v0))
    (req (inRange v1 (lenL v11)) <|
    (geti v11 v1).bind fun p1 =>
    (lease_Raw_1_t p1 v8).bind fun y2 =>
    br y2.1
      (some (Sum.inl (((v1, ()), ()), (v2, v3, (v4, v5, v6, v7, ()), (v8, ()), v9, (v10, ()), v11, (v12, v13, v14, v15, ()), ()))))
      (req (i64ok (v1 + 1)) <|
      rec (((()), (()), (v0, ()), (v1 + 1, ()), ()), (v2, v3, (v4, v5, v6, v7, ()), (v8, ()), v9, (v10, ()), v11, (v12, v13, v14, v15, ()), ()))))
    (some (Sum.inr (((()), (v2, v3, (v4, v5, v6, v7, ()), (v8, ()), v9, (v10, ()), v11, (v12, v13, v14, v15, ()), ())))))

noncomputable def lease_Raw_slices_BinarySearchFunc___api_Lease_api_Lease_api_Lease__L3 (rec : (((Unit) × (Unit) × (Unit) × (Int × Unit) × (Int × Unit) × (Int × Unit) × Unit) × (List Ad × List Ls × (Bool × Int × Int × Int × Unit) × (ByteArray × Unit) × List Ls × (Ad × Unit) × List Ls × (Bool × Int × Int × Int × Unit) × (Ad × Unit) × (Ls × Unit) × (Ls × Unit) × Unit)) → Option (((Unit) × (Unit) × (Unit) × (Int × Unit) × (Int × Unit) × Unit) × (List Ad × List Ls × (Bool × Int × Int × Int × Unit) × (ByteArray × Unit) × List Ls × (Ad × Unit) × List Ls × (Bool × Int × Int × Int × Unit) × (Ad × Unit) × (Ls × Unit) × (Ls × Unit) × Unit))) (x : (((Unit) × (Unit) × (Unit) × (Int × Unit) × (Int × Unit) × (Int × Unit) × Unit) × (List Ad × List Ls × (Bool × Int × Int × Int × Unit) × (ByteArray × Unit) × List Ls × (Ad × Unit) × List Ls × (Bool × Int × Int × Int × Unit) × (Ad × Unit) × (Ls × Unit) × (Ls × Unit) × Unit))) : Option (((Unit) × (Unit) × (Unit) × (Int × Unit) × (Int × Unit) × Unit) × (List Ad × List Ls × (Bool × Int × Int × Int × Unit) × (ByteArray × Unit) × List Ls × (Ad × Unit) × List Ls × (Bool × Int × Int × Int × Unit) × (Ad × Unit) × (Ls × Unit) × (Ls × Unit) × Unit)) :=
  let v0 := x.1.2.2.2.1.1
  let v1 := x.1.2.2.2.2.1.1
  let v2 := x.1.2.2.2.2.2.1.1
  let v3 := x.2.1
  let v4 := x.2.2.1
  let v5 := x.2.2.2.1.1
  let v6 := x.2.2.2.1.2.1
  let v7 := x.2.2.2.1.2.2.1
  let v8 := x.2.2.2.1.2.2.2.1
  let v9 := x.2.2.2.2.1.1
  let v10 := x.2.2.2.2.2.1
  let v11 := x.2.2.2.2.2.2.1.1
  let v12 := x.2.2.2.2.2.2.2.1
  let v13 := x.2.2.2.2.2.2.2.2.1.1
  let v14 := x.2.2.2.2.2.2.2.2.1.2.1
  let v15 := x.2.2.2.2.2.2.2.2.1.2.2.1
  let v16 := x.2.2.2.2.2.2.2.2.1.2.2.2.1
  let v17 := x.2.2.2.2.2.2.2.2.2.1.1
  let v18 := x.2.2.2.2.2.2.2.2.2.2.1.1
  let v19 := x.2.2.2.2.2.2.2.2.2.2.2.1.1
  br (decide (v1 < v2))
    (req (i64ok (v1 + v2)) <|
    req (inRange (convI .i64 (aop .shr .u64 (convI .u64 (v1 + v2)) 1)) (lenL v12)) <|
    (geti v12 (convI .i64 (aop .shr .u64 (convI .u64 (v1 + v2)) 1))).bind fun p1 =>
    (lease_Raw_2_t p1 v19).bind fun y2 =>
    br (decide (y2.1 < 0))
      (req (i64ok ((convI .i64 (aop .shr .u64 (convI .u64 (v1 + v2)) 1)) + 1)) <|
      rec (((()), (()), (()), (v0, ()), ((convI .i64 (aop .shr .u64 (convI .u64 (v1 + v2)) 1)) + 1, ()), (v2, ()), ()), (v3, v4, (v5, v6, v7, v8, ()), (v9, ()), v10, (v11, ()), v12, (v13, v14, v15, v16, ()), (v17, ()), (v18, ()), (v19, ()), ())))
      (rec (((()), (()), (()), (v0, ()), (v1, ()), (convI .i64 (aop .shr .u64 (convI .u64 (v1 + v2)) 1), ()), ()), (v3, v4, (v5, v6, v7, v8, ()), (v9, ()), v10, (v11, ()), v12, (v13, v14, v15, v16, ()), (v17, ()), (v18, ()), (v19, ()), ()))))
    (some (((()), (()), (()), (v0, ()), (v1, ()), ()), (v3, v4, (v5, v6, v7, v8, ()), (v9, ()), v10, (v11, ()), v12, (v13, v14, v15, v16, ()), (v17, ()), (v18, ()), (v19, ()), ())))

noncomputable def lease_Raw_slices_BinarySearchFunc___api_Lease_api_Lease_api_Lease__1_L3 (rec : (((Unit) × (Unit) × (Unit) × (Int × Unit) × (Int × Unit) × (Int × Unit) × Unit) × (List Ad × List Ls × (Bool × Int × Int × Int × Unit) × (ByteArray × Unit) × List Ls × (Ad × Unit) × List Ls × (Bool × Int × Int × Int × Unit) × (Ad × Unit) × (Ls × Unit) × (Ls × Unit) × Unit)) → Option (((Unit) × (Unit) × (Unit) × (Int × Unit) × (Int × Unit) × Unit) × (List Ad × List Ls × (Bool × Int × Int × Int × Unit) × (ByteArray × Unit) × List Ls × (Ad × Unit) × List Ls × (Bool × Int × Int × Int × Unit) × (Ad × Unit) × (Ls × Unit) × (Ls × Unit) × Unit))) (x : (((Unit) × (Unit) × (Unit) × (Int × Unit) × (Int × Unit) × (Int × Unit) × Unit) × (List Ad × List Ls × (Bool × Int × Int × Int × Unit) × (ByteArray × Unit) × List Ls × (Ad × Unit) × List Ls × (Bool × Int × Int × Int × Unit) × (Ad × Unit) × (Ls × Unit) × (Ls × Unit) × Unit))) : Option (((Unit) × (Unit) × (Unit) × (Int × Unit) × (Int × Unit) × Unit) × (List Ad × List Ls × (Bool × Int × Int × Int × Unit) × (ByteArray × Unit) × List Ls × (Ad × Unit) × List Ls × (Bool × Int × Int × Int × Unit) × (Ad × Unit) × (Ls × Unit) × (Ls × Unit) × Unit)) :=
  let v0 := x.1.2.2.2.1.1
  let v1 := x.1.2.2.2.2.1.1
  let v2 := x.1.2.2.2.2.2.1.1
  let v3 := x.2.1
  let v4 := x.2.2.1
  let v5 := x.2.2.2.1.1
  let v6 := x.2.2.2.1.2.1
  let v7 := x.2.2.2.1.2.2.1
  let v8 := x.2.2.2.1.2.2.2.1
  let v9 := x.2.2.2.2.1.1
  let v10 := x.2.2.2.2.2.1
  let v11 := x.2.2.2.2.2.2.1.1
  let v12 := x.2.2.2.2.2.2.2.1
  let v13 := x.2.2.2.2.2.2.2.2.1.1
  let v14 := x.2.2.2.2.2.2.2.2.1.2.1
  let v15 := x.2.2.2.2.2.2.2.2.1.2.2.1
  let v16 := x.2.2.2.2.2.2.2.2.1.2.2.2.1
  let v17 := x.2.2.2.2.2.2.2.2.2.1.1
  let v18 := x.2.2.2.2.2.2.2.2.2.2.1.1
  let v19 := x.2.2.2.2.2.2.2.2.2.2.2.1.1
  br (decide (v1 < v2))
    (req (i64ok (v1 + v2)) <|
    req (inRange (convI .i64 (aop .shr .u64 (convI .u64 (v1 + v2)) 1)) (lenL v12)) <|
    (geti v12 (convI .i64 (aop .shr .u64 (convI .u64 (v1 + v2)) 1))).bind fun p1 =>
    (lease_Raw_2_t p1 v19).bind fun y2 =>
    br (decide (y2.1 < 0))
      (req (i64ok ((convI .i64 (aop .shr .u64 (convI .u64 (v1 + v2)) 1)) + 1)) <|
      rec (((()), (()), (()), (v0, ()), ((convI .i64 (aop .shr .u64 (convI .u64 (v1 + v2)) 1)) + 1, ()), (v2, ()), ()), (v3, v4, (v5, v6, v7, v8, ()), (v9, ()), v10, (v11, ()), v12, (v13, v14, v15, v16, ()), (v17, ()), (v18, ()), (v19, ()), ())))
      (rec (((()), (()), (()), (v0, ()), (v1, ()), (convI .i64 (aop .shr .u64 (convI .u64 (v1 + v2)) 1), ()), ()), (v3, v4, (v5, v6, v7, v8, ()), (v9, ()), v10, (v11, ()), v12, (v13, v14, v15, v16, ()), (v17, ()), (v18, ()), (v19, ()), ()))))
    (some (((()), (()), (()), (v0, ()), (v1, ()), ()), (v3, v4, (v5, v6, v7, v8, ()), (v9, ()), v10, (v11, ()), v12, (v13, v14, v15, v16, ()), (v17, ()), (v18, ()), (v19, ()), ())))

/-- yardarm/lease.Raw -/
noncomputable def lease_Raw_t (a0 : Pf) (a1 : List Ad) (a2 : List Ls) (a3 : ByteArray) (a4 : Int) (a5 : Int) : Option ((List Ls) × Ad × Bool × Unit) :=
  (lease_Live_t a2 a4).bind fun y1 =>
  (loopN lease_Raw_slices_IndexFunc___api_Lease_api_Lease__L2 FUEL (((()), (()), (lenL y1.1, ()), (0, ()), ()), (a1, a2, (a0.ad.v6, a0.ad.hi, a0.ad.lo, a0.bits, ()), (a3, ()), ([] : List Ls), ((⟨false, 0, 0⟩ : Ad), ()), y1.1, (a0.ad.v6, a0.ad.hi, a0.ad.lo, a0.bits, ()), ()))).bind fun y2 =>
  sumC y2 (fun y3 =>
    br (decide (y3.1.1.1 ≥ 0))
      (req (i64ok (a4 + a5)) <|
      req (inRange y3.1.1.1 (lenL y3.2.2.2.2.2.2.2.1)) <|
      req (inRange y3.1.1.1 (lenL y3.2.2.2.2.2.2.2.1)) <|
      (geti y3.2.2.2.2.2.2.2.1 y3.1.1.1).bind fun p4 =>
      req (inRange y3.1.1.1 (lenL (seti y3.2.2.2.2.2.2.2.1 y3.1.1.1 (⟨p4.ad, p4.who, a4 + a5⟩ : Ls)))) <|
      req (inRange y3.1.1.1 (lenL (seti y3.2.2.2.2.2.2.2.1 y3.1.1.1 (⟨p4.ad, p4.who, a4 + a5⟩ : Ls)))) <|
      (geti (seti y3.2.2.2.2.2.2.2.1 y3.1.1.1 (⟨p4.ad, p4.who, a4 + a5⟩ : Ls)) y3.1.1.1).bind fun p5 =>
      some (seti y3.2.2.2.2.2.2.2.1 y3.1.1.1 (⟨p4.ad, p4.who, a4 + a5⟩ : Ls), p5.ad, true, ()))
      ((m_lease_book__first_t (⟨(⟨y3.2.2.2.2.2.2.2.2.1.1, y3.2.2.2.2.2.2.2.2.1.2.1, y3.2.2.2.2.2.2.2.2.1.2.2.1⟩ : Ad), y3.2.2.2.2.2.2.2.2.1.2.2.2.1⟩ : Pf) y3.2.1 y3.2.2.2.2.2.2.2.1).bind fun y4 =>
      br (!y4.2.1)
        (some (([] : List Ls), y4.1, false, ()))
        (req (i64ok (a4 + a5)) <|
        ((loopN lease_Raw_slices_BinarySearchFunc___api_Lease_api_Lease_api_Lease__L3 FUEL (((()), (()), (()), (lenL y3.2.2.2.2.2.2.2.1, ()), (0, ()), (lenL y3.2.2.2.2.2.2.2.1, ()), ()), (y3.2.1, y3.2.2.1, (y3.2.2.2.1.1, y3.2.2.2.1.2.1, y3.2.2.2.1.2.2.1, y3.2.2.2.1.2.2.2.1, ()), (y3.2.2.2.2.1.1, ()), y3.2.2.2.2.2.1, (y3.2.2.2.2.2.2.1.1, ()), y3.2.2.2.2.2.2.2.1, (y3.2.2.2.2.2.2.2.2.1.1, y3.2.2.2.2.2.2.2.2.1.2.1, y3.2.2.2.2.2.2.2.2.1.2.2.1, y3.2.2.2.2.2.2.2.2.1.2.2.2.1, ()), (y4.1, ()), ((⟨y4.1, y3.2.2.2.2.1.1, a4 + a5⟩ : Ls), ()), ((⟨y4.1, y3.2.2.2.2.1.1, a4 + a5⟩ : Ls), ()), ()))).bind fun y5 =>
          br (decide (y5.1.2.2.2.2.1.1 < y5.1.2.2.2.1.1))
            (req (inRange y5.1.2.2.2.2.1.1 (lenL y5.2.2.2.2.2.2.2.1)) <|
            (geti y5.2.2.2.2.2.2.2.1 y5.1.2.2.2.2.1.1).bind fun p6 =>
            (lease_Raw_2_t p6 y5.2.2.2.2.2.2.2.2.2.2.2.1.1).bind fun y7 =>
            some (y5.1.2.2.2.2.1.1, decide (y7.1 = 0), ()))
            (some (y5.1.2.2.2.2.1.1, false, ()))).bind fun y6 =>
        both
          (dup 1 <|
          req (decide (0 ≤ y6.1) && decide (y6.1 ≤ lenL y3.2.2.2.2.2.2.2.1) && room (lenL y3.2.2.2.2.2.2.2.1) 1) <|
          some (insL y3.2.2.2.2.2.2.2.1 y6.1 (⟨y4.1, y3.2.2.2.2.1.1, a4 + a5⟩ : Ls), y4.1, true, ()))
          (req (decide (0 ≤ y6.1) && decide (y6.1 ≤ lenL y3.2.2.2.2.2.2.2.1) && room (lenL y3.2.2.2.2.2.2.2.1) 1) <|
          some (insL y3.2.2.2.2.2.2.2.1 y6.1 (⟨y4.1, y3.2.2.2.2.1.1, a4 + a5⟩ : Ls), y4.1, true, ()))))) (fun y7 =>
    (m_lease_book__first_t (⟨(⟨y7.2.2.2.2.2.2.2.2.1.1, y7.2.2.2.2.2.2.2.2.1.2.1, y7.2.2.2.2.2.2.2.2.1.2.2.1⟩ : Ad), y7.2.2.2.2.2.2.2.2.1.2.2.2.1⟩ : Pf) y7.2.1 y7.2.2.2.2.2.2.2.1).bind fun y8 =>
    br (!y8.2.1)
      (some (([] : List Ls), y8.1, false, ()))
      (req (i64ok (a4 + a5)) <|
      ((loopN lease_Raw_slices_BinarySearchFunc___api_Lease_api_Lease_api_Lease__1_L3 FUEL (((()), (()), (()), (lenL y7.2.2.2.2.2.2.2.1, ()), (0, ()), (lenL y7.2.2.2.2.2.2.2.1, ()), ()), (y7.2.1, y7.2.2.1, (y7.2.2.2.1.1, y7.2.2.2.1.2.1, y7.2.2.2.1.2.2.1, y7.2.2.2.1.2.2.2.1, ()), (y7.2.2.2.2.1.1, ()), y7.2.2.2.2.2.1, (y7.2.2.2.2.2.2.1.1, ()), y7.2.2.2.2.2.2.2.1, (y7.2.2.2.2.2.2.2.2.1.1, y7.2.2.2.2.2.2.2.2.1.2.1, y7.2.2.2.2.2.2.2.2.1.2.2.1, y7.2.2.2.2.2.2.2.2.1.2.2.2.1, ()), (y8.1, ()), ((⟨y8.1, y7.2.2.2.2.1.1, a4 + a5⟩ : Ls), ()), ((⟨y8.1, y7.2.2.2.2.1.1, a4 + a5⟩ : Ls), ()), ()))).bind fun y9 =>
        br (decide (y9.1.2.2.2.2.1.1 < y9.1.2.2.2.1.1))
          (req (inRange y9.1.2.2.2.2.1.1 (lenL y9.2.2.2.2.2.2.2.1)) <|
          (geti y9.2.2.2.2.2.2.2.1 y9.1.2.2.2.2.1.1).bind fun p10 =>
          (lease_Raw_2_t p10 y9.2.2.2.2.2.2.2.2.2.2.2.1.1).bind fun y11 =>
          some (y9.1.2.2.2.2.1.1, decide (y11.1 = 0), ()))
          (some (y9.1.2.2.2.2.1.1, false, ()))).bind fun y10 =>
      both
        (dup 1 <|
        req (decide (0 ≤ y10.1) && decide (y10.1 ≤ lenL y7.2.2.2.2.2.2.2.1) && room (lenL y7.2.2.2.2.2.2.2.1) 1) <|
        some (insL y7.2.2.2.2.2.2.2.1 y10.1 (⟨y8.1, y7.2.2.2.2.1.1, a4 + a5⟩ : Ls), y8.1, true, ()))
        (req (decide (0 ≤ y10.1) && decide (y10.1 ≤ lenL y7.2.2.2.2.2.2.2.1) && room (lenL y7.2.2.2.2.2.2.2.1) 1) <|
        some (insL y7.2.2.2.2.2.2.2.1 y10.1 (⟨y8.1, y7.2.2.2.2.1.1, a4 + a5⟩ : Ls), y8.1, true, ()))))

/-- yardarm/lease.Grant -/
noncomputable def lease_Grant_t (a0 : Pf) (a1 : List Ad) (a2 : List Ls) (a3 : ByteArray) (a4 : Int) (a5 : Int) : Option ((List Ls) × Ad × Int × Unit) :=
  (lease_Check_t a0 a1 a2 a4).bind fun y1 =>
  br (!decide (y1.1 = 0))
    (br (!decide (y1.1 = 0))
      (some (([] : List Ls), (⟨false, 0, 0⟩ : Ad), y1.1, ()))
      ((lease_Raw_t a0 a1 a2 a3 a4 a5).bind fun y2 =>
      br (!y2.2.2.1)
        (some (([] : List Ls), (⟨false, 0, 0⟩ : Ad), 8, ()))
        (some (y2.1, y2.2.1, 0, ()))))
    ((lease_Who_t a3).bind fun y2 =>
    br (!y2.1)
      (some (([] : List Ls), (⟨false, 0, 0⟩ : Ad), 1, ()))
      ((lease_within_t a5 1 500).bind fun y3 =>
      br (!y3.1)
        (some (([] : List Ls), (⟨false, 0, 0⟩ : Ad), 3, ()))
        (br (!decide (y1.1 = 0))
          (some (([] : List Ls), (⟨false, 0, 0⟩ : Ad), y1.1, ()))
          ((lease_Raw_t a0 a1 a2 a3 a4 a5).bind fun y4 =>
          br (!y4.2.2.1)
            (some (([] : List Ls), (⟨false, 0, 0⟩ : Ad), 8, ()))
            (some (y4.1, y4.2.1, 0, ()))))))

/-- yardarm/yardarmlaw.leaseBegun -/
noncomputable def law_leaseBegun_t : Option (Bool × Unit) :=
  law_quad_t.bind fun y1 =>
  (lease_Grant_t y1.1.1 y1.1.2.1 [] (⟨#[120]⟩ : ByteArray) 5 10).bind fun y2 =>
  law_quad_t.bind fun y3 =>
  (lease_Grant_t y3.1.1 y3.1.2.1 y2.1 (⟨#[121]⟩ : ByteArray) 5 1).bind fun y4 =>
  law_quad_t.bind fun y5 =>
  (lease_Grant_t y5.1.1 y5.1.2.1 y4.1 (⟨#[122]⟩ : ByteArray) 7 1).bind fun y6 =>
  (lease_Drop_t y4.1 7).bind fun y7 =>
  law_quad_t.bind fun y8 =>
  (lease_Pool_t y8.1.1 y8.1.2.1).bind fun y9 =>
  br (decide (y9.1 = 0))
    (law_quad_t.bind fun y10 =>
    (lease_Check_t y10.1.1 y10.1.2.1 y4.1 5).bind fun y11 =>
    br (decide (y11.1 = 0))
      (br (decide (y2.2.2.1 = 0))
        (br (decide (y4.2.2.1 = 0))
          (br (decide (y6.2.2.1 = 0))
            (br (decide (y7.2.2.1 = 0))
              ((law_v4_t 9).bind fun y12 =>
              br (eqAd y2.2.1 y12.1)
                ((law_v4_t 10).bind fun y13 =>
                br (eqAd y4.2.1 y13.1)
                  ((law_v4_t 10).bind fun y14 =>
                  br (eqAd y6.2.1 y14.1)
                    (br (decide (lenL y6.1 = 2))
                      (br (decide (lenL y7.1 = 1))
                        (some (decide (y7.2.1 = 1), ()))
                        (some (false, ())))
                      (some (false, ())))
                    (some (false, ())))
                  (some (false, ())))
                (some (false, ())))
              (some (false, ())))
            (some (false, ())))
          (some (false, ())))
        (some (false, ())))
      (some (false, ())))
    (some (false, ()))

/-- strings.Index -/
noncomputable def strings_Index_t (a0 : ByteArray) (a1 : ByteArray) : Option (Int × Unit) :=
  (internal_stringslite_Index_t a0 a1).bind fun y1 =>
  some (y1.1, ())

/-- strings.Contains -/
noncomputable def strings_Contains_t (a0 : ByteArray) (a1 : ByteArray) : Option (Bool × Unit) :=
  (strings_Index_t a0 a1).bind fun y1 =>
  some (decide (y1.1 ≥ 0), ())

/-- internal/stringslite.Cut -/
noncomputable def internal_stringslite_Cut_t (a0 : ByteArray) (a1 : ByteArray) : Option (ByteArray × ByteArray × Bool × Unit) :=
  (internal_stringslite_Index_t a0 a1).bind fun y1 =>
  br (decide (y1.1 ≥ 0))
    (req ((decide (0 ≤ y1.1)) && (decide (y1.1 ≤ lenS a0))) <|
    req (i64ok (y1.1 + (lenS a1))) <|
    req (((decide (0 ≤ y1.1 + (lenS a1))) && (decide (y1.1 + (lenS a1) ≤ lenS a0))) && (decide (lenS a0 ≤ lenS a0))) <|
    some (subS a0 0 y1.1, subS a0 (y1.1 + (lenS a1)) (lenS a0), true, ()))
    (some (a0, (ByteArray.empty), false, ()))

/-- strings.Cut -/
noncomputable def strings_Cut_t (a0 : ByteArray) (a1 : ByteArray) : Option (ByteArray × ByteArray × Bool × Unit) :=
  (internal_stringslite_Cut_t a0 a1).bind fun y1 =>
  some (y1.1, y1.2.1, y1.2.2.1, ())

/-- yardarm/addr.Parse -/
noncomputable def addr_Parse_t (a0 : ByteArray) : Option (Ad × Int × Unit) :=
  (addr_told_t a0).bind fun y1 =>
  br (!y1.2.1)
    (some ((⟨false, 0, 0⟩ : Ad), 1, ()))
    (some (y1.1, 0, ()))

noncomputable def addr_groups_L3 (rec : (((Int × Unit) × (Unit) × (Unit) × (Int × Unit) × Unit) × ((Ad × Unit) × List ByteArray × Unit)) → Option (((Unit) × Unit) × (List ByteArray × Unit))) (x : (((Int × Unit) × (Unit) × (Unit) × (Int × Unit) × Unit) × ((Ad × Unit) × List ByteArray × Unit))) : Option (((Unit) × Unit) × (List ByteArray × Unit)) :=
  let v0 := x.1.1.1
  let v1 := x.1.2.2.2.1.1
  let v2 := x.2.1.1
  let v3 := x.2.2.1
  br (decide (v1 < v0))
    ((addr_group_t v2 v1).bind fun y1 =>
    (strconv_FormatUint_t y1.1 16).bind fun y2 =>
    req (room (lenL v3) (lenL ([y2.1] : List ByteArray))) <|
    req (i64ok (v1 + 1)) <|
    rec (((v0, ()), (()), (()), (v1 + 1, ()), ()), ((v2, ()), v3 ++ ([y2.1] : List ByteArray), ())))
    (some (((()), ()), (v3, ())))

/-- yardarm/addr.groups -/
noncomputable def addr_groups_t (a0 : Ad) (a1 : Int) (a2 : Int) : Option (ByteArray × Unit) :=
  (loopN addr_groups_L3 FUEL (((a2, ()), (()), (()), (a1, ()), ()), ((a0, ()), ([] : List ByteArray), ()))).bind fun y1 =>
  (strings_Join_t y1.2.1 (⟨#[58]⟩ : ByteArray)).bind fun y2 =>
  some (y2.1, ())

noncomputable def addr_Text_L4 (rec : (((Unit) × (Unit) × (Int × Unit) × Unit) × ((Ad × Unit) × List ByteArray × Unit)) → Option (((Unit) × Unit) × (List ByteArray × Unit))) (x : (((Unit) × (Unit) × (Int × Unit) × Unit) × ((Ad × Unit) × List ByteArray × Unit))) : Option (((Unit) × Unit) × (List ByteArray × Unit)) :=
  let v0 := x.1.2.2.1.1
  let v1 := x.2.1.1
  let v2 := x.2.2.1
  br (decide (v0 ≥ 0))
    (req (decide (0 ≤ v0)) <|
    (strconv_FormatUint_t (aop .and .u64 (aop .shr .u64 v1.lo v0) 255) 10).bind fun y1 =>
    req (room (lenL v2) (lenL ([y1.1] : List ByteArray))) <|
    req (i64ok (v0 - 8)) <|
    rec (((()), (()), (v0 - 8, ()), ()), ((v1, ()), v2 ++ ([y1.1] : List ByteArray), ())))
    (some (((()), ()), (v2, ())))

/-- yardarm/addr.Text -/
noncomputable def addr_Text_t (a0 : Ad) : Option (ByteArray × Unit) :=
  br (!a0.v6)
    ((loopN addr_Text_L4 FUEL (((()), (()), (24, ()), ()), ((a0, ()), ([] : List ByteArray), ()))).bind fun y1 =>
    (strings_Join_t y1.2.1 (⟨#[46]⟩ : ByteArray)).bind fun y2 =>
    some (y2.1, ()))
    ((addr_longest_t a0).bind fun y1 =>
    br (decide (y1.2.1 = 0))
      ((addr_groups_t a0 0 8).bind fun y2 =>
      some (y2.1, ()))
      ((addr_groups_t a0 0 y1.1).bind fun y2 =>
      req (roomS (catS y2.1 (⟨#[58, 58]⟩ : ByteArray))) <|
      req (i64ok (y1.1 + y1.2.1)) <|
      (addr_groups_t a0 (y1.1 + y1.2.1) 8).bind fun y3 =>
      req (roomS (catS (catS y2.1 (⟨#[58, 58]⟩ : ByteArray)) y3.1)) <|
      some (catS (catS y2.1 (⟨#[58, 58]⟩ : ByteArray)) y3.1, ())))

/-- yardarm/addr.Print -/
noncomputable def addr_Print_t (a0 : Ad) : Option (ByteArray × Int × Unit) :=
  (addr_Check_t a0).bind fun y1 =>
  br (!decide (y1.1 = 0))
    (some ((ByteArray.empty), y1.1, ()))
    ((addr_Text_t a0).bind fun y2 =>
    some (y2.1, 0, ()))

/-- yardarm/yardarmlaw.addrBegun -/
noncomputable def law_addrBegun_t : Option (Bool × Unit) :=
  (addr_Parse_t (⟨#[50, 48, 48, 49, 58, 68, 66, 56, 58, 48, 58, 48, 58, 49, 58, 58, 49, 46, 50, 46, 51, 46, 52]⟩ : ByteArray)).bind fun y1 =>
  (addr_Print_t y1.1).bind fun y2 =>
  (addr_Parse_t (⟨#[49, 48, 46, 48, 46, 48, 46, 50, 53, 53]⟩ : ByteArray)).bind fun y3 =>
  (addr_Next_t y3.1).bind fun y4 =>
  (addr_Less_t y3.1 y1.1).bind fun y5 =>
  (addr_Print_t (⟨true, 0, 0⟩ : Ad)).bind fun y6 =>
  (addr_Parse_t (⟨#[49, 58, 58, 50, 58, 58, 51]⟩ : ByteArray)).bind fun y7 =>
  (br (decide (y1.2.1 = 0))
      (some (decide (y2.2.1 = 0)))
      (some false)).bind fun c8 =>
  (br c8
      (some (decide (y3.2.1 = 0)))
      (some false)).bind fun c9 =>
  (br c9
      (some (decide (y4.2.2.1 = 0)))
      (some false)).bind fun c10 =>
  (br c10
      (some (decide (y5.2.1 = 0)))
      (some false)).bind fun c11 =>
  (br c11
      (some (decide (y6.2.1 = 0)))
      (some false)).bind fun c12 =>
  (br c12
      (some (decide (y7.2.1 = 1)))
      (some false)).bind fun c13 =>
  (br c13
      (some (strcmp .eql y2.1 (⟨#[50, 48, 48, 49, 58, 100, 98, 56, 58, 58, 49, 58, 48, 58, 49, 48, 50, 58, 51, 48, 52]⟩ : ByteArray)))
      (some false)).bind fun c14 =>
  (br c14
      ((law_v4_t 167772415).bind fun y15 =>
      some (eqAd y3.1 y15.1))
      (some false)).bind fun c15 =>
  (br c15
      (some y4.2.1)
      (some false)).bind fun c16 =>
  (br c16
      ((law_v4_t 167772416).bind fun y17 =>
      some (eqAd y4.1 y17.1))
      (some false)).bind fun c17 =>
  (br c17
      (some y5.1)
      (some false)).bind fun c18 =>
  (br c18
      (some (strcmp .eql y6.1 (⟨#[58, 58]⟩ : ByteArray)))
      (some false)).bind fun c19 =>
  some (c19, ())

noncomputable def law_LeaseFirst_L16 (rec : (((Unit) × (Int × Unit) × (Unit) × (Unit) × (Int × Unit) × (Unit) × (Unit) × (Int × Unit) × (Bool × Unit) × (Int × Unit) × Unit) × (List Ad × List Ls × (Bool × Int × Int × Int × Unit) × (Ad × Unit) × (Ad × Unit) × (Ad × Unit) × Unit)) → Option (((Unit) × (Int × Unit) × (Unit) × (Unit) × (Int × Unit) × (Unit) × (Unit) × (Int × Unit) × (Bool × Unit) × Unit) × (List Ad × List Ls × (Bool × Int × Int × Int × Unit) × (Ad × Unit) × (Ad × Unit) × (Ad × Unit) × Unit))) (x : (((Unit) × (Int × Unit) × (Unit) × (Unit) × (Int × Unit) × (Unit) × (Unit) × (Int × Unit) × (Bool × Unit) × (Int × Unit) × Unit) × (List Ad × List Ls × (Bool × Int × Int × Int × Unit) × (Ad × Unit) × (Ad × Unit) × (Ad × Unit) × Unit))) : Option (((Unit) × (Int × Unit) × (Unit) × (Unit) × (Int × Unit) × (Unit) × (Unit) × (Int × Unit) × (Bool × Unit) × Unit) × (List Ad × List Ls × (Bool × Int × Int × Int × Unit) × (Ad × Unit) × (Ad × Unit) × (Ad × Unit) × Unit)) :=
  let v0 := x.1.2.1.1
  let v1 := x.1.2.2.2.2.1.1
  let v2 := x.1.2.2.2.2.2.2.2.1.1
  let v3 := x.1.2.2.2.2.2.2.2.2.1.1
  let v4 := x.1.2.2.2.2.2.2.2.2.2.1.1
  let v5 := x.2.1
  let v6 := x.2.2.1
  let v7 := x.2.2.2.1.1
  let v8 := x.2.2.2.1.2.1
  let v9 := x.2.2.2.1.2.2.1
  let v10 := x.2.2.2.1.2.2.2.1
  let v11 := x.2.2.2.2.1.1
  let v12 := x.2.2.2.2.2.1.1
  let v13 := x.2.2.2.2.2.2.1.1
  br (decide (v4 < lenL v6))
    ((br v3
        (some true)
        (req (inRange v4 (lenL v6)) <|
        req (inRange v4 (lenL v6)) <|
        (geti v6 v4).bind fun p1 =>
        br (eqAd p1.ad v12)
          (req (inRange v4 (lenL v6)) <|
          req (inRange v4 (lenL v6)) <|
          (geti v6 v4).bind fun p2 =>
          some (decide (p2.upto ≥ v0)))
          (some false))).bind fun c1 =>
    req (i64ok (v4 + 1)) <|
    rec (((()), (v0, ()), (()), (()), (v1, ()), (()), (()), (v2, ()), (c1, ()), (v4 + 1, ()), ()), (v5, v6, (v7, v8, v9, v10, ()), (v11, ()), (v12, ()), (v13, ()), ())))
    (some (((()), (v0, ()), (()), (()), (v1, ()), (()), (()), (v2, ()), (v3, ()), ()), (v5, v6, (v7, v8, v9, v10, ()), (v11, ()), (v12, ()), (v13, ()), ())))

noncomputable def law_LeaseFirst_L20 (rec : (((Unit) × (Int × Unit) × (Unit) × (Unit) × (Int × Unit) × (Unit) × (Unit) × (Int × Unit) × (Bool × Unit) × (Int × Unit) × Unit) × (List Ad × List Ls × (Bool × Int × Int × Int × Unit) × (Ad × Unit) × (Ad × Unit) × (Ad × Unit) × Unit)) → Option (((Unit) × (Int × Unit) × (Unit) × (Unit) × (Int × Unit) × (Unit) × (Unit) × (Int × Unit) × (Bool × Unit) × Unit) × (List Ad × List Ls × (Bool × Int × Int × Int × Unit) × (Ad × Unit) × (Ad × Unit) × (Ad × Unit) × Unit))) (x : (((Unit) × (Int × Unit) × (Unit) × (Unit) × (Int × Unit) × (Unit) × (Unit) × (Int × Unit) × (Bool × Unit) × (Int × Unit) × Unit) × (List Ad × List Ls × (Bool × Int × Int × Int × Unit) × (Ad × Unit) × (Ad × Unit) × (Ad × Unit) × Unit))) : Option (((Unit) × (Int × Unit) × (Unit) × (Unit) × (Int × Unit) × (Unit) × (Unit) × (Int × Unit) × (Bool × Unit) × Unit) × (List Ad × List Ls × (Bool × Int × Int × Int × Unit) × (Ad × Unit) × (Ad × Unit) × (Ad × Unit) × Unit)) :=
  let v0 := x.1.2.1.1
  let v1 := x.1.2.2.2.2.1.1
  let v2 := x.1.2.2.2.2.2.2.2.1.1
  let v3 := x.1.2.2.2.2.2.2.2.2.1.1
  let v4 := x.1.2.2.2.2.2.2.2.2.2.1.1
  let v5 := x.2.1
  let v6 := x.2.2.1
  let v7 := x.2.2.2.1.1
  let v8 := x.2.2.2.1.2.1
  let v9 := x.2.2.2.1.2.2.1
  let v10 := x.2.2.2.1.2.2.2.1
  let v11 := x.2.2.2.2.1.1
  let v12 := x.2.2.2.2.2.1.1
  let v13 := x.2.2.2.2.2.2.1.1
  br (decide (v4 < lenL v5))
    ((br v3
        (some true)
        (req (inRange v4 (lenL v5)) <|
        (geti v5 v4).bind fun p1 =>
        some (eqAd p1 v12))).bind fun c1 =>
    req (i64ok (v4 + 1)) <|
    rec (((()), (v0, ()), (()), (()), (v1, ()), (()), (()), (v2, ()), (c1, ()), (v4 + 1, ()), ()), (v5, v6, (v7, v8, v9, v10, ()), (v11, ()), (v12, ()), (v13, ()), ())))
    (some (((()), (v0, ()), (()), (()), (v1, ()), (()), (()), (v2, ()), (v3, ()), ()), (v5, v6, (v7, v8, v9, v10, ()), (v11, ()), (v12, ()), (v13, ()), ())))

noncomputable def law_LeaseFirst_L10 (rec : (((Unit) × (Int × Unit) × (Unit) × (Unit) × (Int × Unit) × (Unit) × (Unit) × (Int × Unit) × Unit) × (List Ad × List Ls × (Bool × Int × Int × Int × Unit) × (Ad × Unit) × (Ad × Unit) × (Ad × Unit) × Unit)) → Option ((((Bool × Unit) × Unit) × (List Ad × List Ls × Unit)) ⊕ (((Int × Unit) × Unit) × (List Ad × List Ls × Unit)))) (x : (((Unit) × (Int × Unit) × (Unit) × (Unit) × (Int × Unit) × (Unit) × (Unit) × (Int × Unit) × Unit) × (List Ad × List Ls × (Bool × Int × Int × Int × Unit) × (Ad × Unit) × (Ad × Unit) × (Ad × Unit) × Unit))) : Option ((((Bool × Unit) × Unit) × (List Ad × List Ls × Unit)) ⊕ (((Int × Unit) × Unit) × (List Ad × List Ls × Unit))) :=
  let v0 := x.1.2.1.1
  let v1 := x.1.2.2.2.2.1.1
  let v2 := x.1.2.2.2.2.2.2.2.1.1
  let v3 := x.2.1
  let v4 := x.2.2.1
  let v5 := x.2.2.2.1.1
  let v6 := x.2.2.2.1.2.1
  let v7 := x.2.2.2.1.2.2.1
  let v8 := x.2.2.2.1.2.2.2.1
  let v9 := x.2.2.2.2.1.1
  let v10 := x.2.2.2.2.2.1.1
  let v11 := x.2.2.2.2.2.2.1.1
  br (decide (v2 < 16))
    ((br (decide (v1 = 0))
        (some (eqAd v10 v9))
        (some false)).bind fun c1 =>
    br c1
      (some (Sum.inl (((true, ()), ()), (v3, v4, ()))))
      ((loopN law_LeaseFirst_L16 FUEL (((()), (v0, ()), (()), (()), (v1, ()), (()), (()), (v2, ()), (false, ()), (0, ()), ()), (v3, v4, (v5, v6, v7, v8, ()), (v9, ()), (v10, ()), (v11, ()), ()))).bind fun y2 =>
      (loopN law_LeaseFirst_L20 FUEL (((()), (y2.1.2.1.1, ()), (()), (()), (y2.1.2.2.2.2.1.1, ()), (()), (()), (y2.1.2.2.2.2.2.2.2.1.1, ()), (y2.1.2.2.2.2.2.2.2.2.1.1, ()), (0, ()), ()), (y2.2.1, y2.2.2.1, (y2.2.2.2.1.1, y2.2.2.2.1.2.1, y2.2.2.2.1.2.2.1, y2.2.2.2.1.2.2.2.1, ()), (y2.2.2.2.2.1.1, ()), (y2.2.2.2.2.2.1.1, ()), (y2.2.2.2.2.2.2.1.1, ()), ()))).bind fun y3 =>
      br (!y3.1.2.2.2.2.2.2.2.2.1.1)
        (some (Sum.inl (((false, ()), ()), (y3.2.1, y3.2.2.1, ()))))
        (br (eqAd y3.2.2.2.2.2.1.1 y3.2.2.2.2.2.2.1.1)
          (some (Sum.inr ((((y3.1.2.2.2.2.1.1, ()), ()), (y3.2.1, y3.2.2.1, ())))))
          ((R_NextOf_t y3.2.2.2.2.2.1.1).bind fun y4 =>
          br (!y4.2.1)
            (some (Sum.inl (((false, ()), ()), (y3.2.1, y3.2.2.1, ()))))
            (req (i64ok (y3.1.2.2.2.2.2.2.2.1.1 + 1)) <|
            rec (((()), (y3.1.2.1.1, ()), (()), (()), (y3.1.2.2.2.2.1.1, ()), (()), (()), (y3.1.2.2.2.2.2.2.2.1.1 + 1, ()), ()), (y3.2.1, y3.2.2.1, (y3.2.2.2.1.1, y3.2.2.2.1.2.1, y3.2.2.2.1.2.2.1, y3.2.2.2.1.2.2.2.1, ()), (y3.2.2.2.2.1.1, ()), (y4.1, ()), (y3.2.2.2.2.2.2.1.1, ()), ())))))))
    (some (Sum.inr ((((v1, ()), ()), (v3, v4, ())))))

/-- yardarm/yardarmlaw.LeaseFirst -/
noncomputable def law_LeaseFirst_t (a0 : Pf) (a1 : List Ad) (a2 : List Ls) (a3 : ByteArray) (a4 : Int) : Option (Bool × Unit) :=
  law_leaseBegun_t.bind fun y1 =>
  (br (!y1.1)
      (some true)
      (law_addrBegun_t.bind fun y2 =>
      some (!y2.1))).bind fun c2 =>
  br c2
    (some (false, ()))
    ((lease_Check_t a0 a1 a2 a4).bind fun y3 =>
    (br (!decide (y3.1 = 0))
        (some true)
        ((R_IsWho_t a3).bind fun y4 =>
        some (!y4.1))).bind fun c4 =>
    (br c4
        (some true)
        ((R_WhoAt_t a2 a3).bind fun y5 =>
        some (decide (y5.1 ≥ 0)))).bind fun c5 =>
    br c5
      (some (true, ()))
      ((lease_Grant_t a0 a1 a2 a3 a4 1).bind fun y6 =>
      (br (!decide (y6.2.2.1 = 0))
          (some (!decide (y6.2.2.1 = 8)))
          (some false)).bind fun c7 =>
      br c7
        (some (false, ()))
        (both
          ((R_LastOf_t a0).bind fun y8 =>
          dup 1 <|
          (loopN law_LeaseFirst_L10 FUEL (((()), (a4, ()), (()), (()), (y6.2.2.1, ()), (()), (()), (0, ()), ()), (a1, a2, (a0.ad.v6, a0.ad.hi, a0.ad.lo, a0.bits, ()), (y6.2.1, ()), (a0.ad, ()), (y8.1, ()), ()))).bind fun y9 =>
          sumC y9 (fun y10 =>
            some (y10.1.1.1, ())) (fun y11 =>
            some (decide (y11.1.1.1 = 8), ())))
          (both
            (dup 1 <|
            (R_LastOf_t a0).bind fun y8 =>
            (loopN law_LeaseFirst_L10 FUEL (((()), (a4, ()), (()), (()), (y6.2.2.1, ()), (()), (()), (0, ()), ()), (a1, a2, (a0.ad.v6, a0.ad.hi, a0.ad.lo, a0.bits, ()), (y6.2.1, ()), (a0.ad, ()), (y8.1, ()), ()))).bind fun y9 =>
            sumC y9 (fun y10 =>
              some (y10.1.1.1, ())) (fun y11 =>
              some (decide (y11.1.1.1 = 8), ())))
            (dup 1 <|
            (R_LastOf_t a0).bind fun y8 =>
            (loopN law_LeaseFirst_L10 FUEL (((()), (a4, ()), (()), (()), (y6.2.2.1, ()), (()), (()), (0, ()), ()), (a1, a2, (a0.ad.v6, a0.ad.hi, a0.ad.lo, a0.bits, ()), (y6.2.1, ()), (a0.ad, ()), (y8.1, ()), ()))).bind fun y9 =>
            sumC y9 (fun y10 =>
              some (y10.1.1.1, ())) (fun y11 =>
              some (decide (y11.1.1.1 = 8), ())))))))

/-- yardarm/prefix.Parse -/
noncomputable def prefix_Parse_t (a0 : ByteArray) : Option (Pf × Int × Unit) :=
  (strings_Cut_t a0 (⟨#[47]⟩ : ByteArray)).bind fun y1 =>
  (addr_Parse_t y1.1).bind fun y2 =>
  (prefix_Digits_t y1.2.1).bind fun y3 =>
  (br (!y1.2.2.1)
      (some true)
      (some (!decide (y2.2.1 = 0)))).bind fun c4 =>
  (br c4
      (some true)
      (some (!y3.2.1))).bind fun c5 =>
  br c5
    (some ((⟨(⟨false, 0, 0⟩ : Ad), 0⟩ : Pf), 1, ()))
    ((prefix_Check_t (⟨y2.1, y3.1⟩ : Pf)).bind fun y6 =>
    br (!decide (y6.1 = 0))
      (some ((⟨(⟨false, 0, 0⟩ : Ad), 0⟩ : Pf), y6.1, ()))
      (some ((⟨y2.1, y3.1⟩ : Pf), 0, ())))

/-- yardarm/prefix.Text -/
noncomputable def prefix_Text_t (a0 : Pf) : Option (ByteArray × Unit) :=
  (addr_Text_t a0.ad).bind fun y1 =>
  req (roomS (catS y1.1 (⟨#[47]⟩ : ByteArray))) <|
  (strconv_Itoa_t a0.bits).bind fun y2 =>
  req (roomS (catS (catS y1.1 (⟨#[47]⟩ : ByteArray)) y2.1)) <|
  some (catS (catS y1.1 (⟨#[47]⟩ : ByteArray)) y2.1, ())

/-- yardarm/prefix.Print -/
noncomputable def prefix_Print_t (a0 : Pf) : Option (ByteArray × Int × Unit) :=
  (prefix_Check_t a0).bind fun y1 =>
  br (!decide (y1.1 = 0))
    (some ((ByteArray.empty), y1.1, ()))
    ((prefix_Text_t a0).bind fun y2 =>
    some (y2.1, 0, ()))

/-- yardarm/yardarmlaw.prefixBegun -/
noncomputable def law_prefixBegun_t : Option (Bool × Unit) :=
  (prefix_Parse_t (⟨#[49, 48, 46, 48, 46, 48, 46, 48, 47, 51, 48]⟩ : ByteArray)).bind fun y1 =>
  (law_net_t 167772162 31).bind fun y2 =>
  (prefix_Has_t y1.1 y2.1).bind fun y3 =>
  (prefix_Ends_t y1.1).bind fun y4 =>
  (prefix_Halves_t y1.1).bind fun y5 =>
  (prefix_Whole_t y5.1 y5.2.1).bind fun y6 =>
  (prefix_Print_t y5.2.1).bind fun y7 =>
  (br (decide (y1.2.1 = 0))
      (some (decide (y3.2.1 = 0)))
      (some false)).bind fun c8 =>
  (br c8
      (some (decide (y4.2.2.1 = 0)))
      (some false)).bind fun c9 =>
  (br c9
      (some (decide (y5.2.2.1 = 0)))
      (some false)).bind fun c10 =>
  (br c10
      (some (decide (y6.2.1 = 0)))
      (some false)).bind fun c11 =>
  (br c11
      (some (decide (y7.2.1 = 0)))
      (some false)).bind fun c12 =>
  (br c12
      ((law_net_t 1 31).bind fun y13 =>
      (prefix_Check_t y13.1).bind fun y14 =>
      some (decide (y14.1 = 4)))
      (some false)).bind fun c13 =>
  (br c13
      (some y3.1)
      (some false)).bind fun c14 =>
  (br c14
      ((law_v4_t 167772160).bind fun y15 =>
      some (eqAd y4.1 y15.1))
      (some false)).bind fun c15 =>
  (br c15
      ((law_v4_t 167772163).bind fun y16 =>
      some (eqAd y4.2.1 y16.1))
      (some false)).bind fun c16 =>
  (br c16
      (some (eqPf y6.1 y1.1))
      (some false)).bind fun c17 =>
  (br c17
      (some (strcmp .eql y7.1 (⟨#[49, 48, 46, 48, 46, 48, 46, 50, 47, 51, 49]⟩ : ByteArray)))
      (some false)).bind fun c18 =>
  some (c18, ())

noncomputable def law_LeaseOnce_L13 (rec : (((Unit) × (ByteArray × Unit) × (Int × Unit) × (Int × Unit) × (Unit) × (Unit) × (Unit) × (Bool × Unit) × (Int × Unit) × Unit) × (List Ad × List Ls × (Bool × Int × Int × Int × Unit) × List Ls × (Ad × Unit) × Unit)) → Option ((((Bool × Unit) × Unit) × (List Ad × List Ls × Unit)) ⊕ (((ByteArray × Unit) × (Int × Unit) × (Int × Unit) × (Unit) × (Unit) × (Unit) × (Bool × Unit) × Unit) × (List Ad × List Ls × (Bool × Int × Int × Int × Unit) × List Ls × (Ad × Unit) × Unit)))) (x : (((Unit) × (ByteArray × Unit) × (Int × Unit) × (Int × Unit) × (Unit) × (Unit) × (Unit) × (Bool × Unit) × (Int × Unit) × Unit) × (List Ad × List Ls × (Bool × Int × Int × Int × Unit) × List Ls × (Ad × Unit) × Unit))) : Option ((((Bool × Unit) × Unit) × (List Ad × List Ls × Unit)) ⊕ (((ByteArray × Unit) × (Int × Unit) × (Int × Unit) × (Unit) × (Unit) × (Unit) × (Bool × Unit) × Unit) × (List Ad × List Ls × (Bool × Int × Int × Int × Unit) × List Ls × (Ad × Unit) × Unit))) :=
  let v0 := x.1.2.1.1
  let v1 := x.1.2.2.1.1
  let v2 := x.1.2.2.2.1.1
  let v3 := x.1.2.2.2.2.2.2.2.1.1
  let v4 := x.1.2.2.2.2.2.2.2.2.1.1
  let v5 := x.2.1
  let v6 := x.2.2.1
  let v7 := x.2.2.2.1.1
  let v8 := x.2.2.2.1.2.1
  let v9 := x.2.2.2.1.2.2.1
  let v10 := x.2.2.2.1.2.2.2.1
  let v11 := x.2.2.2.2.1
  let v12 := x.2.2.2.2.2.1.1
  br (decide (v4 < lenL v6))
    (req (inRange v4 (lenL v6)) <|
    req (inRange v4 (lenL v6)) <|
    (geti v6 v4).bind fun p1 =>
    (br (strcmp .eql p1.who v0)
        (req (inRange v4 (lenL v6)) <|
        req (inRange v4 (lenL v6)) <|
        (geti v6 v4).bind fun p2 =>
        some (decide (p2.upto ≥ v1)))
        (some false)).bind fun c2 =>
    br c2
      (req (inRange v4 (lenL v6)) <|
      req (inRange v4 (lenL v6)) <|
      (geti v6 v4).bind fun p3 =>
      (br (strcmp .eql p3.who v0)
          (some true)
          (req (inRange v4 (lenL v6)) <|
          req (inRange v4 (lenL v6)) <|
          (geti v6 v4).bind fun p4 =>
          some (decide (p4.upto < v1)))).bind fun c4 =>
      br c4
        (req (i64ok (v4 + 1)) <|
        rec (((()), (v0, ()), (v1, ()), (v2, ()), (()), (()), (()), (false, ()), (v4 + 1, ()), ()), (v5, v6, (v7, v8, v9, v10, ()), v11, (v12, ()), ())))
        (req (inRange v4 (lenL v6)) <|
        req (inRange v4 (lenL v6)) <|
        (geti v6 v4).bind fun p5 =>
        (R_WhoAt_t v11 p5.who).bind fun y6 =>
        (br (decide (y6.1 < 0))
            (some true)
            (req (inRange y6.1 (lenL v11)) <|
            (geti v11 y6.1).bind fun p7 =>
            req (inRange v4 (lenL v6)) <|
            (geti v6 v4).bind fun p8 =>
            some (!(eqLs p7 p8)))).bind fun c7 =>
        br c7
          (some (Sum.inl (((false, ()), ()), (v5, v6, ()))))
          (req (i64ok (v4 + 1)) <|
          rec (((()), (v0, ()), (v1, ()), (v2, ()), (()), (()), (()), (false, ()), (v4 + 1, ()), ()), (v5, v6, (v7, v8, v9, v10, ()), v11, (v12, ()), ())))))
      (req (inRange v4 (lenL v6)) <|
      req (inRange v4 (lenL v6)) <|
      (geti v6 v4).bind fun p3 =>
      (br (strcmp .eql p3.who v0)
          (some true)
          (req (inRange v4 (lenL v6)) <|
          req (inRange v4 (lenL v6)) <|
          (geti v6 v4).bind fun p4 =>
          some (decide (p4.upto < v1)))).bind fun c4 =>
      br c4
        (req (i64ok (v4 + 1)) <|
        rec (((()), (v0, ()), (v1, ()), (v2, ()), (()), (()), (()), (v3, ()), (v4 + 1, ()), ()), (v5, v6, (v7, v8, v9, v10, ()), v11, (v12, ()), ())))
        (req (inRange v4 (lenL v6)) <|
        req (inRange v4 (lenL v6)) <|
        (geti v6 v4).bind fun p5 =>
        (R_WhoAt_t v11 p5.who).bind fun y6 =>
        (br (decide (y6.1 < 0))
            (some true)
            (req (inRange y6.1 (lenL v11)) <|
            (geti v11 y6.1).bind fun p7 =>
            req (inRange v4 (lenL v6)) <|
            (geti v6 v4).bind fun p8 =>
            some (!(eqLs p7 p8)))).bind fun c7 =>
        br c7
          (some (Sum.inl (((false, ()), ()), (v5, v6, ()))))
          (req (i64ok (v4 + 1)) <|
          rec (((()), (v0, ()), (v1, ()), (v2, ()), (()), (()), (()), (v3, ()), (v4 + 1, ()), ()), (v5, v6, (v7, v8, v9, v10, ()), v11, (v12, ()), ()))))))
    (some (Sum.inr ((((v0, ()), (v1, ()), (v2, ()), (()), (()), (()), (v3, ()), ()), (v5, v6, (v7, v8, v9, v10, ()), v11, (v12, ()), ())))))

noncomputable def law_LeaseOnce_L22 (rec : (((ByteArray × Unit) × (Int × Unit) × (Int × Unit) × (Unit) × (Unit) × (Unit) × (Bool × Unit) × (Int × Unit) × Unit) × (List Ad × List Ls × (Bool × Int × Int × Int × Unit) × List Ls × (Ad × Unit) × Unit)) → Option ((((Bool × Unit) × Unit) × (List Ad × List Ls × Unit)) ⊕ (((ByteArray × Unit) × (Int × Unit) × (Int × Unit) × (Unit) × (Unit) × (Unit) × Unit) × (List Ad × List Ls × (Bool × Int × Int × Int × Unit) × List Ls × (Ad × Unit) × Unit)))) (x : (((ByteArray × Unit) × (Int × Unit) × (Int × Unit) × (Unit) × (Unit) × (Unit) × (Bool × Unit) × (Int × Unit) × Unit) × (List Ad × List Ls × (Bool × Int × Int × Int × Unit) × List Ls × (Ad × Unit) × Unit))) : Option ((((Bool × Unit) × Unit) × (List Ad × List Ls × Unit)) ⊕ (((ByteArray × Unit) × (Int × Unit) × (Int × Unit) × (Unit) × (Unit) × (Unit) × Unit) × (List Ad × List Ls × (Bool × Int × Int × Int × Unit) × List Ls × (Ad × Unit) × Unit))) :=
  let v0 := x.1.1.1
  let v1 := x.1.2.1.1
  let v2 := x.1.2.2.1.1
  let v3 := x.1.2.2.2.2.2.2.1.1
  let v4 := x.1.2.2.2.2.2.2.2.1.1
  let v5 := x.2.1
  let v6 := x.2.2.1
  let v7 := x.2.2.2.1.1
  let v8 := x.2.2.2.1.2.1
  let v9 := x.2.2.2.1.2.2.1
  let v10 := x.2.2.2.1.2.2.2.1
  let v11 := x.2.2.2.2.1
  let v12 := x.2.2.2.2.2.1.1
  br (decide (v4 < lenL v5))
    ((br v3
        (req (inRange v4 (lenL v5)) <|
        (geti v5 v4).bind fun p1 =>
        some (eqAd p1 v12))
        (some false)).bind fun c1 =>
    br c1
      (some (Sum.inl (((false, ()), ()), (v5, v6, ()))))
      (req (i64ok (v4 + 1)) <|
      rec (((v0, ()), (v1, ()), (v2, ()), (()), (()), (()), (v3, ()), (v4 + 1, ()), ()), (v5, v6, (v7, v8, v9, v10, ()), v11, (v12, ()), ()))))
    (some (Sum.inr ((((v0, ()), (v1, ()), (v2, ()), (()), (()), (()), ()), (v5, v6, (v7, v8, v9, v10, ()), v11, (v12, ()), ())))))

/-- yardarm/yardarmlaw.LeaseOnce -/
noncomputable def law_LeaseOnce_t (a0 : Pf) (a1 : List Ad) (a2 : List Ls) (a3 : ByteArray) (a4 : Int) (a5 : Int) (a6 : Int) : Option (Bool × Unit) :=
  law_leaseBegun_t.bind fun y1 =>
  (br (!y1.1)
      (some true)
      (law_prefixBegun_t.bind fun y2 =>
      some (!y2.1))).bind fun c2 =>
  br c2
    (some (false, ()))
    ((lease_Grant_t a0 a1 a2 a3 a4 a5).bind fun y3 =>
    br (!decide (y3.2.2.1 = 0))
      ((br (decide (lenL y3.1 = 0))
          (some (eqAd y3.2.1 (⟨false, 0, 0⟩ : Ad)))
          (some false)).bind fun c4 =>
      some (c4, ()))
      ((lease_Check_t a0 a1 y3.1 a4).bind fun y4 =>
      (br (!decide (y4.1 = 0))
          (some true)
          ((R_HasAddr_t a0 y3.2.1).bind fun y5 =>
          some (!y5.1))).bind fun c5 =>
      br c5
        (some (false, ()))
        ((R_WhoAt_t y3.1 a3).bind fun y6 =>
        (br (decide (y6.1 < 0))
            (some true)
            (req (inRange y6.1 (lenL y3.1)) <|
            req (inRange y6.1 (lenL y3.1)) <|
            (geti y3.1 y6.1).bind fun p7 =>
            some (!(eqAd p7.ad y3.2.1)))).bind fun c7 =>
        (br c7
            (some true)
            (req (inRange y6.1 (lenL y3.1)) <|
            req (inRange y6.1 (lenL y3.1)) <|
            (geti y3.1 y6.1).bind fun p8 =>
            req (i64ok (a4 + a5)) <|
            some (!decide (p8.upto = a4 + a5)))).bind fun c8 =>
        br c8
          (some (false, ()))
          ((loopN law_LeaseOnce_L13 FUEL (((()), (a3, ()), (a4, ()), (a6, ()), (()), (()), (()), (true, ()), (0, ()), ()), (a1, a2, (a0.ad.v6, a0.ad.hi, a0.ad.lo, a0.bits, ()), y3.1, (y3.2.1, ()), ()))).bind fun y9 =>
          sumC y9 (fun y10 =>
            some (y10.1.1.1, ())) (fun y11 =>
            (loopN law_LeaseOnce_L22 FUEL (((y11.1.1.1, ()), (y11.1.2.1.1, ()), (y11.1.2.2.1.1, ()), (()), (()), (()), (y11.1.2.2.2.2.2.2.1.1, ()), (0, ()), ()), (y11.2.1, y11.2.2.1, (y11.2.2.2.1.1, y11.2.2.2.1.2.1, y11.2.2.2.1.2.2.1, y11.2.2.2.1.2.2.2.1, ()), y11.2.2.2.2.1, (y11.2.2.2.2.2.1.1, ()), ()))).bind fun y12 =>
            sumC y12 (fun y13 =>
              some (y13.1.1.1, ())) (fun y14 =>
              (lease_Grant_t (⟨(⟨y14.2.2.2.1.1, y14.2.2.2.1.2.1, y14.2.2.2.1.2.2.1⟩ : Ad), y14.2.2.2.1.2.2.2.1⟩ : Pf) y14.2.1 y14.2.2.2.2.1 y14.1.1.1 y14.1.2.1.1 y14.1.2.2.1.1).bind fun y15 =>
              (br (!decide (y15.2.2.1 = 0))
                  (br (decide (y14.1.2.2.1.1 < 1))
                    (some true)
                    (some (decide (y14.1.2.2.1.1 > 500))))
                  (some false)).bind fun c16 =>
              (br c16
                  (some true)
                  (br (decide (y15.2.2.1 = 0))
                    (br (eqAd y15.2.1 y14.2.2.2.2.2.1.1)
                      (some (decide (lenL y15.1 = lenL y14.2.2.2.2.1)))
                      (some false))
                    (some false))).bind fun c17 =>
              some (c17, ())))))))

end Go.Ma
