/-
  The plain forms of the program's functions, as the machine runs them: those that hang on the contracts made by hand. Written by a program of mine.
-/
import Derived.Test.YtjadfkpajjlgkaaHe
namespace Go.Ma
open Go
noncomputable def lease_Check_L7 (rec : (((Unit) × (Unit) × (Unit) × (Int × Unit) × (Int × Unit) × Unit) × (List Ad × List Ls × (Bool × Int × Int × Int × Unit) × Unit)) → Option ((((Int × Unit) × Unit) × (List Ad × List Ls × Unit)) ⊕ ((Unit) × (List Ad × List Ls × Unit)))) (x : (((Unit) × (Unit) × (Unit) × (Int × Unit) × (Int × Unit) × Unit) × (List Ad × List Ls × (Bool × Int × Int × Int × Unit) × Unit))) : Option ((((Int × Unit) × Unit) × (List Ad × List Ls × Unit)) ⊕ ((Unit) × (List Ad × List Ls × Unit))) :=
  let v0 := x.1.2.2.2.1.1
  let v1 := x.1.2.2.2.2.1.1
  let v2 := x.2.1
  let v3 := x.2.2.1
  let v4 := x.2.2.2.1.1
  let v5 := x.2.2.2.1.2.1
  let v6 := x.2.2.2.1.2.2.1
  let v7 := x.2.2.2.1.2.2.2.1
  br (decide (v1 < v0))
    (req (inRange v1 (lenL v3)) <|
    (geti v3 v1).bind fun p1 =>
    (prefix_Holds_t (⟨(⟨v4, v5, v6⟩ : Ad), v7⟩ : Pf) p1.ad).bind fun y2 =>
    br (!y2.1)
      (some (Sum.inl (((5, ()), ()), (v2, v3, ()))))
      (req (i64ok (v1 + 1)) <|
      req ((decide (0 ≤ v1 + 1)) && (decide (v1 + 1 ≤ lenL v3))) <|
      (lease_Twice_t (subL v3 0 (v1 + 1))).bind fun y3 =>
      br y3.1
        (some (Sum.inl (((6, ()), ()), (v2, v3, ()))))
        (req (i64ok (v1 + 1)) <|
        rec (((()), (()), (()), (v0, ()), (v1 + 1, ()), ()), (v2, v3, (v4, v5, v6, v7, ()), ())))))
    (some (Sum.inr (((()), (v2, v3, ())))))

/-- yardarm/lease.Check -/
noncomputable def lease_Check_t (a0 : Pf) (a1 : List Ad) (a2 : List Ls) (a3 : Int) : Option (Int × Unit) :=
  (lease_Pool_t a0 a1).bind fun y1 =>
  br (decide (y1.1 = 0))
    ((lease_All_t a2 a3).bind fun y2 =>
    br (!decide (y2.1 = 0))
      (some (y2.1, ()))
      ((loopN lease_Check_L7 FUEL (((()), (()), (()), (lenL a2, ()), (0, ()), ()), (a1, a2, (a0.ad.v6, a0.ad.hi, a0.ad.lo, a0.bits, ()), ()))).bind fun y3 =>
      sumC y3 (fun y4 =>
        some (y4.1.1.1, ())) (fun y5 =>
        some (0, ()))))
    (br (!decide (y1.1 = 0))
      (some (y1.1, ()))
      ((loopN lease_Check_L7 FUEL (((()), (()), (()), (lenL a2, ()), (0, ()), ()), (a1, a2, (a0.ad.v6, a0.ad.hi, a0.ad.lo, a0.bits, ()), ()))).bind fun y2 =>
      sumC y2 (fun y3 =>
        some (y3.1.1.1, ())) (fun y4 =>
        some (0, ()))))

noncomputable def lease_Raw_slices_IndexFunc___api_Lease_api_Lease__L2 (rec : (((Unit) × (Unit) × (Int × Unit) × (Int × Unit) × Unit) × (List Ad × List Ls × (Bool × Int × Int × Int × Unit) × (ByteArray × Unit) × List Ls × (Ad × Unit) × List Ls × (Bool × Int × Int × Int × Unit) × Unit)) → Option ((((Int × Unit) × Unit) × (List Ad × List Ls × (Bool × Int × Int × Int × Unit) × (ByteArray × Unit) × List Ls × (Ad × Unit) × List Ls × (Bool × Int × Int × Int × Unit) × Unit)) ⊕ ((Unit) × (List Ad × List Ls × (Bool × Int × Int × Int × Unit) × (ByteArray × Unit) × List Ls × (Ad × Unit) × List Ls × (Bool × Int × Int × Int × Unit) × Unit)))) (x : (((Unit) × (Unit) × (Int × Unit) × (Int × Unit) × Unit) × (List Ad × List Ls × (Bool × Int × Int × Int × Unit) × (ByteArray × Unit) × List Ls × (Ad × Unit) × List Ls × (Bool × Int × Int × Int × Unit) × Unit))) : Option ((((Int × Unit) × Unit) × (List Ad × List Ls × (Bool × Int × Int × Int × Unit) × (ByteArray × Unit) × List Ls × (Ad × Unit) × List Ls × (Bool × Int × Int × Int × Unit) × Unit)) ⊕ ((Unit) × (List Ad × List Ls × (Bool × Int × Int × Int × Unit) × (ByteArray × Unit) × List Ls × (Ad × Unit) × List Ls × (Bool × Int × Int × Int × Unit) × Unit))) :=
  let v0 := x.1.2.2.1.1
  let v1 := x.1.2.2.2.1.1
  let v2 := x.2.1
  let v3 := x.2.2.1
  let v4 := x.2.2.2.1.1
  let v5 := x.2.2.2.1.2.1
  let v6 := x.2.2.2.1.2.2.1
  let v7 := x.2.2.2.1.2.2.2.1
  let v8 := x.2.2.2.2.1.1
  let v9 := x.2.2.2.2.2.1
  let v10 := x.2.2.2.2.2.2.1.1
  let v11 := x.2.2.2.2.2.2.2.1
  let v12 := x.2.2.2.2.2.2.2.2.1.1
  let v13 := x.2.2.2.2.2.2.2.2.1.2.1
  let v14 := x.2.2.2.2.2.2.2.2.1.2.2.1
  let v15 := x.2.2.2.2.2.2.2.2.1.2.2.2.1
  br (decide (v1 < v0))
    (req (inRange v1 (lenL v11)) <|
    (geti v11 v1).bind fun p1 =>
    (lease_Raw_1_t p1 v8).bind fun y2 =>
    br y2.1
      (some (Sum.inl (((v1, ()), ()), (v2, v3, (v4, v5, v6, v7, ()), (v8, ()), v9, (v10, ()), v11, (v12, v13, v14, v15, ()), ()))))
      (req (i64ok (v1 + 1)) <|
      rec (((()), (()), (v0, ()), (v1 + 1, ()), ()), (v2, v3, (v4, v5, v6, v7, ()), (v8, ()), v9, (v10, ()), v11, (v12, v13, v14, v15, ()), ()))))
    (some (Sum.inr (((()), (v2, v3, (v4, v5, v6, v7, ()), (v8, ()), v9, (v10, ()), v11, (v12, v13, v14, v15, ()), ())))))

noncomputable def lease_Raw_slices_BinarySearchFunc___api_Lease_api_Lease_api_Lease__L3 (rec : (((Unit) × (Unit) × (Unit) × (Int × Unit) × (Int × Unit) × (Int × Unit) × Unit) × (List Ad × List Ls × (Bool × Int × Int × Int × Unit) × (ByteArray × Unit) × List Ls × (Ad × Unit) × List Ls × (Bool × Int × Int × Int × Unit) × (Ad × Unit) × (Ls × Unit) × (Ls × Unit) × Unit)) → Option (((Unit) × (Unit) × (Unit) × (Int × Unit) × (Int × Unit) × Unit) × (List Ad × List Ls × (Bool × Int × Int × Int × Unit) × (ByteArray × Unit) × List Ls × (Ad × Unit) × List Ls × (Bool × Int × Int × Int × Unit) × (Ad × Unit) × (Ls × Unit) × (Ls × Unit) × Unit))) (x : (((Unit) × (Unit) × (Unit) × (Int × Unit) × (Int × Unit) × (Int × Unit) × Unit) × (List Ad × List Ls × (Bool × Int × Int × Int × Unit) × (ByteArray × Unit) × List Ls × (Ad × Unit) × List Ls × (Bool × Int × Int × Int × Unit) × (Ad × Unit) × (Ls × Unit) × (Ls × Unit) × Unit))) : Option (((Unit) × (Unit) × (Unit) × (Int × Unit) × (Int × Unit) × Unit) × (List Ad × List Ls × (Bool × Int × Int × Int × Unit) × (ByteArray × Unit) × List Ls × (Ad × Unit) × List Ls × (Bool × Int × Int × Int × Unit) × (Ad × Unit) × (Ls × Unit) × (Ls × Unit) × Unit)) :=
  let v0 := x.1.2.2.2.1.1
  let v1 := x.1.2.2.2.2.1.1
  let v2 := x.1.2.2.2.2.2.1.1
  let v3 := x.2.1
  let v4 := x.2.2.1
  let v5 := x.2.2.2.1.1
  let v6 := x.2.2.2.1.2.1
  let v7 := x.2.2.2.1.2.2.1
  let v8 := x.2.2.2.1.2.2.2.1
  let v9 := x.2.2.2.2.1.1
  let v10 := x.2.2.2.2.2.1
  let v11 := x.2.2.2.2.2.2.1.1
  let v12 := x.2.2.2.2.2.2.2.1
  let v13 := x.2.2.2.2.2.2.2.2.1.1
  let v14 := x.2.2.2.2.2.2.2.2.1.2.1
  let v15 := x.2.2.2.2.2.2.2.2.1.2.2.1
  let v16 := x.2.2.2.2.2.2.2.2.1.2.2.2.1
  let v17 := x.2.2.2.2.2.2.2.2.2.1.1
  let v18 := x.2.2.2.2.2.2.2.2.2.2.1.1
  let v19 := x.2.2.2.2.2.2.2.2.2.2.2.1.1
  br (decide (v1 < v2))
    (req (i64ok (v1 + v2)) <|
    req (inRange (convI .i64 (aop .shr .u64 (convI .u64 (v1 + v2)) 1)) (lenL v12)) <|
    (geti v12 (convI .i64 (aop .shr .u64 (convI .u64 (v1 + v2)) 1))).bind fun p1 =>
    (lease_Raw_2_t p1 v19).bind fun y2 =>
    br (decide (y2.1 < 0))
      (req (i64ok ((convI .i64 (aop .shr .u64 (convI .u64 (v1 + v2)) 1)) + 1)) <|
      rec (((()), (()), (()), (v0, ()), ((convI .i64 (aop .shr .u64 (convI .u64 (v1 + v2)) 1)) + 1, ()), (v2, ()), ()), (v3, v4, (v5, v6, v7, v8, ()), (v9, ()), v10, (v11, ()), v12, (v13, v14, v15, v16, ()), (v17, ()), (v18, ()), (v19, ()), ())))
      (rec (((()), (()), (()), (v0, ()), (v1, ()), (convI .i64 (aop .shr .u64 (convI .u64 (v1 + v2)) 1), ()), ()), (v3, v4, (v5, v6, v7, v8, ()), (v9, ()), v10, (v11, ()), v12, (v13, v14, v15, v16, ()), (v17, ()), (v18, ()), (v19, ()), ()))))
    (some (((()), (()), (()), (v0, ()), (v1, ()), ()), (v3, v4, (v5, v6, v7, v8, ()), (v9, ()), v10, (v11, ()), v12, (v13, v14, v15, v16, ()), (v17, ()), (v18, ()), (v19, ()), ())))

noncomputable def lease_Raw_slices_BinarySearchFunc___api_Lease_api_Lease_api_Lease__1_L3 (rec : (((Unit) × (Unit) × (Unit) × (Int × Unit) × (Int × Unit) × (Int × Unit) × Unit) × (List Ad × List Ls × (Bool × Int × Int × Int × Unit) × (ByteArray × Unit) × List Ls × (Ad × Unit) × List Ls × (Bool × Int × Int × Int × Unit) × (Ad × Unit) × (Ls × Unit) × (Ls × Unit) × Unit)) → Option (((Unit) × (Unit) × (Unit) × (Int × Unit) × (Int × Unit) × Unit) × (List Ad × List Ls × (Bool × Int × Int × Int × Unit) × (ByteArray × Unit) × List Ls × (Ad × Unit) × List Ls × (Bool × Int × Int × Int × Unit) × (Ad × Unit) × (Ls × Unit) × (Ls × Unit) × Unit))) (x : (((Unit) × (Unit) × (Unit) × (Int × Unit) × (Int × Unit) × (Int × Unit) × Unit) × (List Ad × List Ls × (Bool × Int × Int × Int × Unit) × (ByteArray × Unit) × List Ls × (Ad × Unit) × List Ls × (Bool × Int × Int × Int × Unit) × (Ad × Unit) × (Ls × Unit) × (Ls × Unit) × Unit))) : Option (((Unit) × (Unit) × (Unit) × (Int × Unit) × (Int × Unit) × Unit) × (List Ad × List Ls × (Bool × Int × Int × Int × Unit) × (ByteArray × Unit) × List Ls × (Ad × Unit) × List Ls × (Bool × Int × Int × Int × Unit) × (Ad × Unit) × (Ls × Unit) × (Ls × Unit) × Unit)) :=
  let v0 := x.1.2.2.2.1.1
  let v1 := x.1.2.2.2.2.1.1
  let v2 := x.1.2.2.2.2.2.1.1
  let v3 := x.2.1
  let v4 := x.2.2.1
  let v5 := x.2.2.2.1.1
  let v6 := x.2.2.2.1.2.1
  let v7 := x.2.2.2.1.2.2.1
  let v8 := x.2.2.2.1.2.2.2.1
  let v9 := x.2.2.2.2.1.1
  let v10 := x.2.2.2.2.2.1
  let v11 := x.2.2.2.2.2.2.1.1
  let v12 := x.2.2.2.2.2.2.2.1
  let v13 := x.2.2.2.2.2.2.2.2.1.1
  let v14 := x.2.2.2.2.2.2.2.2.1.2.1
  let v15 := x.2.2.2.2.2.2.2.2.1.2.2.1
  let v16 := x.2.2.2.2.2.2.2.2.1.2.2.2.1
  let v17 := x.2.2.2.2.2.2.2.2.2.1.1
  let v18 := x.2.2.2.2.2.2.2.2.2.2.1.1
  let v19 := x.2.2.2.2.2.2.2.2.2.2.2.1.1
  br (decide (v1 < v2))
    (req (i64ok (v1 + v2)) <|
    req (inRange (convI .i64 (aop .shr .u64 (convI .u64 (v1 + v2)) 1)) (lenL v12)) <|
    (geti v12 (convI .i64 (aop .shr .u64 (convI .u64 (v1 + v2)) 1))).bind fun p1 =>
    (lease_Raw_2_t p1 v19).bind fun y2 =>
    br (decide (y2.1 < 0))
      (req (i64ok ((convI .i64 (aop .shr .u64 (convI .u64 (v1 + v2)) 1)) + 1)) <|
      rec (((()), (()), (()), (v0, ()), ((convI .i64 (aop .shr .u64 (convI .u64 (v1 + v2)) 1)) + 1, ()), (v2, ()), ()), (v3, v4, (v5, v6, v7, v8, ()), (v9, ()), v10, (v11, ()), v12, (v13, v14, v15, v16, ()), (v17, ()), (v18, ()), (v19, ()), ())))
      (rec (((()), (()), (()), (v0, ()), (v1, ()), (convI .i64 (aop .shr .u64 (convI .u64 (v1 + v2)) 1), ()), ()), (v3, v4, (v5, v6, v7, v8, ()), (v9, ()), v10, (v11, ()), v12, (v13, v14, v15, v16, ()), (v17, ()), (v18, ()), (v19, ()), ()))))
    (some (((()), (()), (()), (v0, ()), (v1, ()), ()), (v3, v4, (v5, v6, v7, v8, ()), (v9, ()), v10, (v11, ()), v12, (v13, v14, v15, v16, ()), (v17, ()), (v18, ()), (v19, ()), ())))

/-- yardarm/lease.Raw -/
noncomputable def lease_Raw_t (a0 : Pf) (a1 : List Ad) (a2 : List Ls) (a3 : ByteArray) (a4 : Int) (a5 : Int) : Option ((List Ls) × Ad × Bool × Unit) :=
  (lease_Live_t a2 a4).bind fun y1 =>
  (loopN lease_Raw_slices_IndexFunc___api_Lease_api_Lease__L2 FUEL (((()), (()), (lenL y1.1, ()), (0, ()), ()), (a1, a2, (a0.ad.v6, a0.ad.hi, a0.ad.lo, a0.bits, ()), (a3, ()), ([] : List Ls), ((⟨false, 0, 0⟩ : Ad), ()), y1.1, (a0.ad.v6, a0.ad.hi, a0.ad.lo, a0.bits, ()), ()))).bind fun y2 =>
  sumC y2 (fun y3 =>
    br (decide (y3.1.1.1 ≥ 0))
      (req (i64ok (a4 + a5)) <|
      req (inRange y3.1.1.1 (lenL y3.2.2.2.2.2.2.2.1)) <|
      req (inRange y3.1.1.1 (lenL y3.2.2.2.2.2.2.2.1)) <|
      (geti y3.2.2.2.2.2.2.2.1 y3.1.1.1).bind fun p4 =>
      req (inRange y3.1.1.1 (lenL (seti y3.2.2.2.2.2.2.2.1 y3.1.1.1 (⟨p4.ad, p4.who, a4 + a5⟩ : Ls)))) <|
      req (inRange y3.1.1.1 (lenL (seti y3.2.2.2.2.2.2.2.1 y3.1.1.1 (⟨p4.ad, p4.who, a4 + a5⟩ : Ls)))) <|
      (geti (seti y3.2.2.2.2.2.2.2.1 y3.1.1.1 (⟨p4.ad, p4.who, a4 + a5⟩ : Ls)) y3.1.1.1).bind fun p5 =>
      some (seti y3.2.2.2.2.2.2.2.1 y3.1.1.1 (⟨p4.ad, p4.who, a4 + a5⟩ : Ls), p5.ad, true, ()))
      ((m_lease_book__first_t (⟨(⟨y3.2.2.2.2.2.2.2.2.1.1, y3.2.2.2.2.2.2.2.2.1.2.1, y3.2.2.2.2.2.2.2.2.1.2.2.1⟩ : Ad), y3.2.2.2.2.2.2.2.2.1.2.2.2.1⟩ : Pf) y3.2.1 y3.2.2.2.2.2.2.2.1).bind fun y4 =>
      br (!y4.2.1)
        (some (([] : List Ls), y4.1, false, ()))
        (req (i64ok (a4 + a5)) <|
        ((loopN lease_Raw_slices_BinarySearchFunc___api_Lease_api_Lease_api_Lease__L3 FUEL (((()), (()), (()), (lenL y3.2.2.2.2.2.2.2.1, ()), (0, ()), (lenL y3.2.2.2.2.2.2.2.1, ()), ()), (y3.2.1, y3.2.2.1, (y3.2.2.2.1.1, y3.2.2.2.1.2.1, y3.2.2.2.1.2.2.1, y3.2.2.2.1.2.2.2.1, ()), (y3.2.2.2.2.1.1, ()), y3.2.2.2.2.2.1, (y3.2.2.2.2.2.2.1.1, ()), y3.2.2.2.2.2.2.2.1, (y3.2.2.2.2.2.2.2.2.1.1, y3.2.2.2.2.2.2.2.2.1.2.1, y3.2.2.2.2.2.2.2.2.1.2.2.1, y3.2.2.2.2.2.2.2.2.1.2.2.2.1, ()), (y4.1, ()), ((⟨y4.1, y3.2.2.2.2.1.1, a4 + a5⟩ : Ls), ()), ((⟨y4.1, y3.2.2.2.2.1.1, a4 + a5⟩ : Ls), ()), ()))).bind fun y5 =>
          br (decide (y5.1.2.2.2.2.1.1 < y5.1.2.2.2.1.1))
            (req (inRange y5.1.2.2.2.2.1.1 (lenL y5.2.2.2.2.2.2.2.1)) <|
            (geti y5.2.2.2.2.2.2.2.1 y5.1.2.2.2.2.1.1).bind fun p6 =>
            (lease_Raw_2_t p6 y5.2.2.2.2.2.2.2.2.2.2.2.1.1).bind fun y7 =>
            some (y5.1.2.2.2.2.1.1, decide (y7.1 = 0), ()))
            (some (y5.1.2.2.2.2.1.1, false, ()))).bind fun y6 =>
        both
          (dup 1 <|
          req (decide (0 ≤ y6.1) && decide (y6.1 ≤ lenL y3.2.2.2.2.2.2.2.1) && room (lenL y3.2.2.2.2.2.2.2.1) 1) <|
          some (insL y3.2.2.2.2.2.2.2.1 y6.1 (⟨y4.1, y3.2.2.2.2.1.1, a4 + a5⟩ : Ls), y4.1, true, ()))
          (req (decide (0 ≤ y6.1) && decide (y6.1 ≤ lenL y3.2.2.2.2.2.2.2.1) && room (lenL y3.2.2.2.2.2.2.2.1) 1) <|
          some (insL y3.2.2.2.2.2.2.2.1 y6.1 (⟨y4.1, y3.2.2.2.2.1.1, a4 + a5⟩ : Ls), y4.1, true, ()))))) (fun y7 =>
    (m_lease_book__first_t (⟨(⟨y7.2.2.2.2.2.2.2.2.1.1, y7.2.2.2.2.2.2.2.2.1.2.1, y7.2.2.2.2.2.2.2.2.1.2.2.1⟩ : Ad), y7.2.2.2.2.2.2.2.2.1.2.2.2.1⟩ : Pf) y7.2.1 y7.2.2.2.2.2.2.2.1).bind fun y8 =>
    br (!y8.2.1)
      (some (([] : List Ls), y8.1, false, ()))
      (req (i64ok (a4 + a5)) <|
      ((loopN lease_Raw_slices_BinarySearchFunc___api_Lease_api_Lease_api_Lease__1_L3 FUEL (((()), (()), (()), (lenL y7.2.2.2.2.2.2.2.1, ()), (0, ()), (lenL y7.2.2.2.2.2.2.2.1, ()), ()), (y7.2.1, y7.2.2.1, (y7.2.2.2.1.1, y7.2.2.2.1.2.1, y7.2.2.2.1.2.2.1, y7.2.2.2.1.2.2.2.1, ()), (y7.2.2.2.2.1.1, ()), y7.2.2.2.2.2.1, (y7.2.2.2.2.2.2.1.1, ()), y7.2.2.2.2.2.2.2.1, (y7.2.2.2.2.2.2.2.2.1.1, y7.2.2.2.2.2.2.2.2.1.2.1, y7.2.2.2.2.2.2.2.2.1.2.2.1, y7.2.2.2.2.2.2.2.2.1.2.2.2.1, ()), (y8.1, ()), ((⟨y8.1, y7.2.2.2.2.1.1, a4 + a5⟩ : Ls), ()), ((⟨y8.1, y7.2.2.2.2.1.1, a4 + a5⟩ : Ls), ()), ()))).bind fun y9 =>
        br (decide (y9.1.2.2.2.2.1.1 < y9.1.2.2.2.1.1))
          (req (inRange y9.1.2.2.2.2.1.1 (lenL y9.2.2.2.2.2.2.2.1)) <|
          (geti y9.2.2.2.2.2.2.2.1 y9.1.2.2.2.2.1.1).bind fun p10 =>
          (lease_Raw_2_t p10 y9.2.2.2.2.2.2.2.2.2.2.2.1.1).bind fun y11 =>
          some (y9.1.2.2.2.2.1.1, decide (y11.1 = 0), ()))
          (some (y9.1.2.2.2.2.1.1, false, ()))).bind fun y10 =>
      both
        (dup 1 <|
        req (decide (0 ≤ y10.1) && decide (y10.1 ≤ lenL y7.2.2.2.2.2.2.2.1) && room (lenL y7.2.2.2.2.2.2.2.1) 1) <|
        some (insL y7.2.2.2.2.2.2.2.1 y10.1 (⟨y8.1, y7.2.2.2.2.1.1, a4 + a5⟩ : Ls), y8.1, true, ()))
        (req (decide (0 ≤ y10.1) && decide (y10.1 ≤ lenL y7.2.2.2.2.2.2.2.1) && room (lenL y7.2.2.2.2.2.2.2.1) 1) <|
        some (insL y7.2.2.2.2.2.2.2.1 y10.1 (⟨y8.1, y7.2.2.2.2.1.1, a4 + a5⟩ : Ls), y8.1, true, ()))))

/-- yardarm/lease.Grant -/
noncomputable def lease_Grant_t (a0 : Pf) (a1 : List Ad) (a2 : List Ls) (a3 : ByteArray) (a4 : Int) (a5 : Int) : Option ((List Ls) × Ad × Int × Unit) :=
  (lease_Check_t a0 a1 a2 a4).bind fun y1 =>
  br (!decide (y1.1 = 0))
    (br (!decide (y1.1 = 0))
      (some (([] : List Ls), (⟨false, 0, 0⟩ : Ad), y1.1, ()))
      ((lease_Raw_t a0 a1 a2 a3 a4 a5).bind fun y2 =>
      br (!y2.2.2.1)
        (some (([] : List Ls), (⟨false, 0, 0⟩ : Ad), 8, ()))
        (some (y2.1, y2.2.1, 0, ()))))
    ((lease_Who_t a3).bind fun y2 =>
    br (!y2.1)
      (some (([] : List Ls), (⟨false, 0, 0⟩ : Ad), 1, ()))
      ((lease_within_t a5 1 500).bind fun y3 =>
      br (!y3.1)
        (some (([] : List Ls), (⟨false, 0, 0⟩ : Ad), 3, ()))
        (br (!decide (y1.1 = 0))
          (some (([] : List Ls), (⟨false, 0, 0⟩ : Ad), y1.1, ()))
          ((lease_Raw_t a0 a1 a2 a3 a4 a5).bind fun y4 =>
          br (!y4.2.2.1)
            (some (([] : List Ls), (⟨false, 0, 0⟩ : Ad), 8, ()))
            (some (y4.1, y4.2.1, 0, ()))))))

noncomputable def R_GrantOf_L13 (rec : (((ByteArray × Unit) × (Int × Unit) × (Int × Unit) × (Unit) × (Unit) × (Unit) × (Unit) × (Unit) × (Int × Unit) × (Bool × Unit) × (Int × Unit) × Unit) × (List Ad × List Ls × (Bool × Int × Int × Int × Unit) × (Ad × Unit) × List Ls × List Ls × (Ad × Unit) × Unit)) → Option (((ByteArray × Unit) × (Int × Unit) × (Int × Unit) × (Unit) × (Unit) × (Unit) × (Unit) × (Unit) × (Int × Unit) × (Bool × Unit) × Unit) × (List Ad × List Ls × (Bool × Int × Int × Int × Unit) × (Ad × Unit) × List Ls × List Ls × (Ad × Unit) × Unit))) (x : (((ByteArray × Unit) × (Int × Unit) × (Int × Unit) × (Unit) × (Unit) × (Unit) × (Unit) × (Unit) × (Int × Unit) × (Bool × Unit) × (Int × Unit) × Unit) × (List Ad × List Ls × (Bool × Int × Int × Int × Unit) × (Ad × Unit) × List Ls × List Ls × (Ad × Unit) × Unit))) : Option (((ByteArray × Unit) × (Int × Unit) × (Int × Unit) × (Unit) × (Unit) × (Unit) × (Unit) × (Unit) × (Int × Unit) × (Bool × Unit) × Unit) × (List Ad × List Ls × (Bool × Int × Int × Int × Unit) × (Ad × Unit) × List Ls × List Ls × (Ad × Unit) × Unit)) :=
  let v0 := x.1.1.1
  let v1 := x.1.2.1.1
  let v2 := x.1.2.2.1.1
  let v3 := x.1.2.2.2.2.2.2.2.2.1.1
  let v4 := x.1.2.2.2.2.2.2.2.2.2.1.1
  let v5 := x.1.2.2.2.2.2.2.2.2.2.2.1.1
  let v6 := x.2.1
  let v7 := x.2.2.1
  let v8 := x.2.2.2.1.1
  let v9 := x.2.2.2.1.2.1
  let v10 := x.2.2.2.1.2.2.1
  let v11 := x.2.2.2.1.2.2.2.1
  let v12 := x.2.2.2.2.1.1
  let v13 := x.2.2.2.2.2.1
  let v14 := x.2.2.2.2.2.2.1
  let v15 := x.2.2.2.2.2.2.2.1.1
  br (decide (v5 < lenL v13))
    ((br v4
        (some true)
        (req (inRange v5 (lenL v13)) <|
        req (inRange v5 (lenL v13)) <|
        (geti v13 v5).bind fun p1 =>
        some (eqAd p1.ad v15))).bind fun c1 =>
    req (i64ok (v5 + 1)) <|
    rec (((v0, ()), (v1, ()), (v2, ()), (()), (()), (()), (()), (()), (v3, ()), (c1, ()), (v5 + 1, ()), ()), (v6, v7, (v8, v9, v10, v11, ()), (v12, ()), v13, v14, (v15, ()), ())))
    (some (((v0, ()), (v1, ()), (v2, ()), (()), (()), (()), (()), (()), (v3, ()), (v4, ()), ()), (v6, v7, (v8, v9, v10, v11, ()), (v12, ()), v13, v14, (v15, ()), ())))

noncomputable def R_GrantOf_L20 (rec : (((Unit) × (Unit) × (Unit) × (Unit) × (Unit) × (Bool × Unit) × (Int × Unit) × Unit) × (List Ad × List Ls × (Ad × Unit) × List Ls × List Ls × (Ad × Unit) × (Ls × Unit) × Unit)) → Option (((Unit) × (Unit) × (Unit) × (Unit) × (Bool × Unit) × Unit) × (List Ad × List Ls × (Ad × Unit) × List Ls × (Ad × Unit) × (Ls × Unit) × Unit))) (x : (((Unit) × (Unit) × (Unit) × (Unit) × (Unit) × (Bool × Unit) × (Int × Unit) × Unit) × (List Ad × List Ls × (Ad × Unit) × List Ls × List Ls × (Ad × Unit) × (Ls × Unit) × Unit))) : Option (((Unit) × (Unit) × (Unit) × (Unit) × (Bool × Unit) × Unit) × (List Ad × List Ls × (Ad × Unit) × List Ls × (Ad × Unit) × (Ls × Unit) × Unit)) :=
  let v0 := x.1.2.2.2.2.2.1.1
  let v1 := x.1.2.2.2.2.2.2.1.1
  let v2 := x.2.1
  let v3 := x.2.2.1
  let v4 := x.2.2.2.1.1
  let v5 := x.2.2.2.2.1
  let v6 := x.2.2.2.2.2.1
  let v7 := x.2.2.2.2.2.2.1.1
  let v8 := x.2.2.2.2.2.2.2.1.1
  br (decide (v1 < lenL v5))
    ((br (!v0)
        (req (inRange v1 (lenL v5)) <|
        req (inRange v1 (lenL v5)) <|
        (geti v5 v1).bind fun p1 =>
        (R_IsAhead_t v7 p1.ad).bind fun y2 =>
        some y2.1)
        (some false)).bind fun c1 =>
    br c1
      (req (room (lenL v6) (lenL ([v8] : List Ls))) <|
      req (inRange v1 (lenL v5)) <|
      (geti v5 v1).bind fun p2 =>
      req (room (lenL (v6 ++ ([v8] : List Ls))) (lenL ([p2] : List Ls))) <|
      req (i64ok (v1 + 1)) <|
      rec (((()), (()), (()), (()), (()), (true, ()), (v1 + 1, ()), ()), (v2, v3, (v4, ()), v5, (v6 ++ ([v8] : List Ls)) ++ ([p2] : List Ls), (v7, ()), (v8, ()), ())))
      (req (inRange v1 (lenL v5)) <|
      (geti v5 v1).bind fun p2 =>
      req (room (lenL v6) (lenL ([p2] : List Ls))) <|
      req (i64ok (v1 + 1)) <|
      rec (((()), (()), (()), (()), (()), (v0, ()), (v1 + 1, ()), ()), (v2, v3, (v4, ()), v5, v6 ++ ([p2] : List Ls), (v7, ()), (v8, ()), ()))))
    (some (((()), (()), (()), (()), (v0, ()), ()), (v2, v3, (v4, ()), v6, (v7, ()), (v8, ()), ())))

noncomputable def R_GrantOf_L9 (rec : (((ByteArray × Unit) × (Int × Unit) × (Int × Unit) × (Unit) × (Unit) × (Unit) × (Unit) × (Unit) × (Int × Unit) × Unit) × (List Ad × List Ls × (Bool × Int × Int × Int × Unit) × (Ad × Unit) × List Ls × List Ls × (Ad × Unit) × Unit)) → Option ((((Unit) × (Unit) × (Bool × Unit) × Unit) × (List Ad × List Ls × List Ls × (Ad × Unit) × Unit)) ⊕ (((Unit) × Unit) × (List Ad × List Ls × (Ad × Unit) × Unit)))) (x : (((ByteArray × Unit) × (Int × Unit) × (Int × Unit) × (Unit) × (Unit) × (Unit) × (Unit) × (Unit) × (Int × Unit) × Unit) × (List Ad × List Ls × (Bool × Int × Int × Int × Unit) × (Ad × Unit) × List Ls × List Ls × (Ad × Unit) × Unit))) : Option ((((Unit) × (Unit) × (Bool × Unit) × Unit) × (List Ad × List Ls × List Ls × (Ad × Unit) × Unit)) ⊕ (((Unit) × Unit) × (List Ad × List Ls × (Ad × Unit) × Unit))) :=
  let v0 := x.1.1.1
  let v1 := x.1.2.1.1
  let v2 := x.1.2.2.1.1
  let v3 := x.1.2.2.2.2.2.2.2.2.1.1
  let v4 := x.2.1
  let v5 := x.2.2.1
  let v6 := x.2.2.2.1.1
  let v7 := x.2.2.2.1.2.1
  let v8 := x.2.2.2.1.2.2.1
  let v9 := x.2.2.2.1.2.2.2.1
  let v10 := x.2.2.2.2.1.1
  let v11 := x.2.2.2.2.2.1
  let v12 := x.2.2.2.2.2.2.1
  let v13 := x.2.2.2.2.2.2.2.1.1
  br (decide (v3 < 16))
    ((loopN R_GrantOf_L13 FUEL (((v0, ()), (v1, ()), (v2, ()), (()), (()), (()), (()), (()), (v3, ()), (false, ()), (0, ()), ()), (v4, v5, (v6, v7, v8, v9, ()), (v10, ()), v11, v12, (v13, ()), ()))).bind fun y1 =>
    (R_HasAddr_t (⟨(⟨y1.2.2.2.1.1, y1.2.2.2.1.2.1, y1.2.2.2.1.2.2.1⟩ : Ad), y1.2.2.2.1.2.2.2.1⟩ : Pf) y1.2.2.2.2.2.2.2.1.1).bind fun y2 =>
    (br y2.1
        (some (!y1.1.2.2.2.2.2.2.2.2.2.1.1))
        (some false)).bind fun c3 =>
    (br c3
        ((R_hasAddr_t y1.2.1 y1.2.2.2.2.2.2.2.1.1).bind fun y4 =>
        some (!y4.1))
        (some false)).bind fun c4 =>
    br c4
      (req (i64ok (y1.1.2.1.1 + y1.1.2.2.1.1)) <|
      (loopN R_GrantOf_L20 FUEL (((()), (()), (()), (()), (()), (false, ()), (0, ()), ()), (y1.2.1, y1.2.2.1, (y1.2.2.2.2.1.1, ()), y1.2.2.2.2.2.1, y1.2.2.2.2.2.2.1, (y1.2.2.2.2.2.2.2.1.1, ()), ((⟨y1.2.2.2.2.2.2.2.1.1, y1.1.1.1, y1.1.2.1.1 + y1.1.2.2.1.1⟩ : Ls), ()), ()))).bind fun y5 =>
      br (!y5.1.2.2.2.2.1.1)
        (req (room (lenL y5.2.2.2.2.1) (lenL ([y5.2.2.2.2.2.2.1.1] : List Ls))) <|
        some (Sum.inl (((()), (()), (true, ()), ()), (y5.2.1, y5.2.2.1, y5.2.2.2.2.1 ++ ([y5.2.2.2.2.2.2.1.1] : List Ls), (y5.2.2.2.2.2.1.1, ()), ()))))
        (some (Sum.inl (((()), (()), (true, ()), ()), (y5.2.1, y5.2.2.1, y5.2.2.2.2.1, (y5.2.2.2.2.2.1.1, ()), ())))))
      ((R_NextOf_t y1.2.2.2.2.2.2.2.1.1).bind fun y5 =>
      br (!y5.2.1)
        (some (Sum.inr ((((()), ()), (y1.2.1, y1.2.2.1, (y1.2.2.2.2.1.1, ()), ())))))
        (req (i64ok (y1.1.2.2.2.2.2.2.2.2.1.1 + 1)) <|
        rec (((y1.1.1.1, ()), (y1.1.2.1.1, ()), (y1.1.2.2.1.1, ()), (()), (()), (()), (()), (()), (y1.1.2.2.2.2.2.2.2.2.1.1 + 1, ()), ()), (y1.2.1, y1.2.2.1, (y1.2.2.2.1.1, y1.2.2.2.1.2.1, y1.2.2.2.1.2.2.1, y1.2.2.2.1.2.2.2.1, ()), (y1.2.2.2.2.1.1, ()), y1.2.2.2.2.2.1, y1.2.2.2.2.2.2.1, (y5.1, ()), ())))))
    (some (Sum.inr ((((()), ()), (v4, v5, (v10, ()), ())))))

/-- yardarm/yardarmref.GrantOf -/
noncomputable def R_GrantOf_t (a0 : Pf) (a1 : List Ad) (a2 : List Ls) (a3 : ByteArray) (a4 : Int) (a5 : Int) : Option ((List Ls) × Ad × Bool × Unit) :=
  (R_LiveOf_t a2 a4).bind fun y1 =>
  (R_WhoAt_t y1.1 a3).bind fun y2 =>
  br (decide (y2.1 ≥ 0))
    (req (i64ok (a4 + a5)) <|
    req (inRange y2.1 (lenL y1.1)) <|
    req (inRange y2.1 (lenL y1.1)) <|
    (geti y1.1 y2.1).bind fun p3 =>
    req (inRange y2.1 (lenL (seti y1.1 y2.1 (⟨p3.ad, p3.who, a4 + a5⟩ : Ls)))) <|
    req (inRange y2.1 (lenL (seti y1.1 y2.1 (⟨p3.ad, p3.who, a4 + a5⟩ : Ls)))) <|
    (geti (seti y1.1 y2.1 (⟨p3.ad, p3.who, a4 + a5⟩ : Ls)) y2.1).bind fun p4 =>
    some (seti y1.1 y2.1 (⟨p3.ad, p3.who, a4 + a5⟩ : Ls), p4.ad, true, ()))
    ((loopN R_GrantOf_L9 FUEL (((a3, ()), (a4, ()), (a5, ()), (()), (()), (()), (()), (()), (0, ()), ()), (a1, a2, (a0.ad.v6, a0.ad.hi, a0.ad.lo, a0.bits, ()), ((⟨false, 0, 0⟩ : Ad), ()), y1.1, ([] : List Ls), (a0.ad, ()), ()))).bind fun y3 =>
    sumC y3 (fun y4 =>
      some (y4.2.2.2.1, y4.2.2.2.2.1.1, y4.1.2.2.1.1, ())) (fun y5 =>
      some (([] : List Ls), (⟨false, 0, 0⟩ : Ad), false, ())))

/-- yardarm/yardarmlaw.leaseBegun -/
noncomputable def law_leaseBegun_t : Option (Bool × Unit) :=
  law_quad_t.bind fun y1 =>
  (lease_Grant_t y1.1.1 y1.1.2.1 [] (⟨#[120]⟩ : ByteArray) 5 10).bind fun y2 =>
  law_quad_t.bind fun y3 =>
  (lease_Grant_t y3.1.1 y3.1.2.1 y2.1 (⟨#[121]⟩ : ByteArray) 5 1).bind fun y4 =>
  law_quad_t.bind fun y5 =>
  (lease_Grant_t y5.1.1 y5.1.2.1 y4.1 (⟨#[122]⟩ : ByteArray) 7 1).bind fun y6 =>
  (lease_Drop_t y4.1 7).bind fun y7 =>
  law_quad_t.bind fun y8 =>
  (lease_Pool_t y8.1.1 y8.1.2.1).bind fun y9 =>
  br (decide (y9.1 = 0))
    (law_quad_t.bind fun y10 =>
    (lease_Check_t y10.1.1 y10.1.2.1 y4.1 5).bind fun y11 =>
    br (decide (y11.1 = 0))
      (br (decide (y2.2.2.1 = 0))
        (br (decide (y4.2.2.1 = 0))
          (br (decide (y6.2.2.1 = 0))
            (br (decide (y7.2.2.1 = 0))
              ((law_v4_t 9).bind fun y12 =>
              br (eqAd y2.2.1 y12.1)
                ((law_v4_t 10).bind fun y13 =>
                br (eqAd y4.2.1 y13.1)
                  ((law_v4_t 10).bind fun y14 =>
                  br (eqAd y6.2.1 y14.1)
                    (br (decide (lenL y6.1 = 2))
                      (br (decide (lenL y7.1 = 1))
                        (some (decide (y7.2.1 = 1), ()))
                        (some (false, ())))
                      (some (false, ())))
                    (some (false, ())))
                  (some (false, ())))
                (some (false, ())))
              (some (false, ())))
            (some (false, ())))
          (some (false, ())))
        (some (false, ())))
      (some (false, ())))
    (some (false, ()))

/-- yardarm/yardarmlaw.LeaseTells -/
noncomputable def law_LeaseTells_t (a0 : Pf) (a1 : List Ad) (a2 : List Ls) (a3 : ByteArray) (a4 : Int) (a5 : Int) : Option (Bool × Unit) :=
  (lease_Grant_t a0 a1 a2 a3 a4 a5).bind fun y1 =>
  (lease_Drop_t a2 a4).bind fun y2 =>
  (R_CheckLeases_t a2 a4).bind fun y3 =>
  (R_CheckOf_t a0 a1 a2 a4).bind fun y4 =>
  (br (decide (y4.1 = 0))
      ((R_IsWho_t a3).bind fun y5 =>
      some (!y5.1))
      (some false)).bind fun c5 =>
  (br c5
      (some (((()), (a3, ()), (a4, ()), (a5, ()), (()), (()), (()), (y1.2.2.1, ()), (()), (y2.2.1, ()), (y2.2.2.1, ()), (y3.1, ()), (y4.1, ()), (1, ()), ()), (a1, a2, (a0.ad.v6, a0.ad.hi, a0.ad.lo, a0.bits, ()), y1.1, (y1.2.1, ()), y2.1, ())))
      (some (((()), (a3, ()), (a4, ()), (a5, ()), (()), (()), (()), (y1.2.2.1, ()), (()), (y2.2.1, ()), (y2.2.2.1, ()), (y3.1, ()), (y4.1, ()), (y4.1, ()), ()), (a1, a2, (a0.ad.v6, a0.ad.hi, a0.ad.lo, a0.bits, ()), y1.1, (y1.2.1, ()), y2.1, ())))).bind fun y6 =>
  (br (decide (y6.1.2.2.2.2.2.2.2.2.2.2.2.2.2.1.1 = 0))
      (br (decide (y6.1.2.2.2.1.1 < 1))
        (some true)
        (some (decide (y6.1.2.2.2.1.1 > 500))))
      (some false)).bind fun c7 =>
  (br c7
      (some (((()), (y6.1.2.1.1, ()), (y6.1.2.2.1.1, ()), (y6.1.2.2.2.1.1, ()), (()), (()), (()), (y6.1.2.2.2.2.2.2.2.1.1, ()), (()), (y6.1.2.2.2.2.2.2.2.2.2.1.1, ()), (y6.1.2.2.2.2.2.2.2.2.2.2.1.1, ()), (y6.1.2.2.2.2.2.2.2.2.2.2.2.1.1, ()), (y6.1.2.2.2.2.2.2.2.2.2.2.2.2.1.1, ()), (3, ()), ()), (y6.2.1, y6.2.2.1, (y6.2.2.2.1.1, y6.2.2.2.1.2.1, y6.2.2.2.1.2.2.1, y6.2.2.2.1.2.2.2.1, ()), y6.2.2.2.2.1, (y6.2.2.2.2.2.1.1, ()), y6.2.2.2.2.2.2.1, ())))
      (some (((()), (y6.1.2.1.1, ()), (y6.1.2.2.1.1, ()), (y6.1.2.2.2.1.1, ()), (()), (()), (()), (y6.1.2.2.2.2.2.2.2.1.1, ()), (()), (y6.1.2.2.2.2.2.2.2.2.2.1.1, ()), (y6.1.2.2.2.2.2.2.2.2.2.2.1.1, ()), (y6.1.2.2.2.2.2.2.2.2.2.2.2.1.1, ()), (y6.1.2.2.2.2.2.2.2.2.2.2.2.2.1.1, ()), (y6.1.2.2.2.2.2.2.2.2.2.2.2.2.2.1.1, ()), ()), (y6.2.1, y6.2.2.1, (y6.2.2.2.1.1, y6.2.2.2.1.2.1, y6.2.2.2.1.2.2.1, y6.2.2.2.1.2.2.2.1, ()), y6.2.2.2.2.1, (y6.2.2.2.2.2.1.1, ()), y6.2.2.2.2.2.2.1, ())))).bind fun y8 =>
  (br (decide (y8.1.2.2.2.2.2.2.2.2.2.2.2.1.1 = 0))
      ((R_LiveOf_t y8.2.2.1 y8.1.2.2.1.1).bind fun y9 =>
      some (((()), (y8.1.2.1.1, ()), (y8.1.2.2.1.1, ()), (y8.1.2.2.2.1.1, ()), (()), (()), (()), (y8.1.2.2.2.2.2.2.2.1.1, ()), (()), (y8.1.2.2.2.2.2.2.2.2.2.1.1, ()), (y8.1.2.2.2.2.2.2.2.2.2.2.1.1, ()), (y8.1.2.2.2.2.2.2.2.2.2.2.2.1.1, ()), (y8.1.2.2.2.2.2.2.2.2.2.2.2.2.1.1, ()), (y8.1.2.2.2.2.2.2.2.2.2.2.2.2.2.1.1, ()), (()), (()), (()), ()), (y8.2.1, y8.2.2.1, (y8.2.2.2.1.1, y8.2.2.2.1.2.1, y8.2.2.2.1.2.2.1, y8.2.2.2.1.2.2.2.1, ()), y8.2.2.2.2.1, (y8.2.2.2.2.2.1.1, ()), y8.2.2.2.2.2.2.1, y9.1, ([] : List Ls), ((⟨false, 0, 0⟩ : Ad), ()), ())))
      (some (((()), (y8.1.2.1.1, ()), (y8.1.2.2.1.1, ()), (y8.1.2.2.2.1.1, ()), (()), (()), (()), (y8.1.2.2.2.2.2.2.2.1.1, ()), (()), (y8.1.2.2.2.2.2.2.2.2.2.1.1, ()), (y8.1.2.2.2.2.2.2.2.2.2.2.1.1, ()), (y8.1.2.2.2.2.2.2.2.2.2.2.2.1.1, ()), (y8.1.2.2.2.2.2.2.2.2.2.2.2.2.1.1, ()), (y8.1.2.2.2.2.2.2.2.2.2.2.2.2.2.1.1, ()), (()), (()), (()), ()), (y8.2.1, y8.2.2.1, (y8.2.2.2.1.1, y8.2.2.2.1.2.1, y8.2.2.2.1.2.2.1, y8.2.2.2.1.2.2.2.1, ()), y8.2.2.2.2.1, (y8.2.2.2.2.2.1.1, ()), y8.2.2.2.2.2.2.1, ([] : List Ls), ([] : List Ls), ((⟨false, 0, 0⟩ : Ad), ()), ())))).bind fun y10 =>
  (br (decide (y10.1.2.2.2.2.2.2.2.2.2.2.2.2.2.1.1 = 0))
      ((R_GrantOf_t (⟨(⟨y10.2.2.2.1.1, y10.2.2.2.1.2.1, y10.2.2.2.1.2.2.1⟩ : Ad), y10.2.2.2.1.2.2.2.1⟩ : Pf) y10.2.1 y10.2.2.1 y10.1.2.1.1 y10.1.2.2.1.1 y10.1.2.2.2.1.1).bind fun y11 =>
      (br (!y11.2.2.1)
          (some (((()), (y10.1.2.2.1.1, ()), (()), (()), (()), (y10.1.2.2.2.2.2.2.2.1.1, ()), (()), (y10.1.2.2.2.2.2.2.2.2.2.1.1, ()), (y10.1.2.2.2.2.2.2.2.2.2.2.1.1, ()), (y10.1.2.2.2.2.2.2.2.2.2.2.2.1.1, ()), (y10.1.2.2.2.2.2.2.2.2.2.2.2.2.1.1, ()), (8, ()), (()), (()), (()), ()), (y10.2.1, y10.2.2.1, (y10.2.2.2.1.1, y10.2.2.2.1.2.1, y10.2.2.2.1.2.2.1, y10.2.2.2.1.2.2.2.1, ()), y10.2.2.2.2.1, (y10.2.2.2.2.2.1.1, ()), y10.2.2.2.2.2.2.1, y10.2.2.2.2.2.2.2.1, y11.1, ((⟨false, 0, 0⟩ : Ad), ()), ())))
          (some (((()), (y10.1.2.2.1.1, ()), (()), (()), (()), (y10.1.2.2.2.2.2.2.2.1.1, ()), (()), (y10.1.2.2.2.2.2.2.2.2.2.1.1, ()), (y10.1.2.2.2.2.2.2.2.2.2.2.1.1, ()), (y10.1.2.2.2.2.2.2.2.2.2.2.2.1.1, ()), (y10.1.2.2.2.2.2.2.2.2.2.2.2.2.1.1, ()), (y10.1.2.2.2.2.2.2.2.2.2.2.2.2.2.1.1, ()), (()), (()), (()), ()), (y10.2.1, y10.2.2.1, (y10.2.2.2.1.1, y10.2.2.2.1.2.1, y10.2.2.2.1.2.2.1, y10.2.2.2.1.2.2.2.1, ()), y10.2.2.2.2.1, (y10.2.2.2.2.2.1.1, ()), y10.2.2.2.2.2.2.1, y10.2.2.2.2.2.2.2.1, y11.1, (y11.2.1, ()), ())))).bind fun y12 =>
      some (((()), (y12.1.2.1.1, ()), (()), (()), (()), (y12.1.2.2.2.2.2.1.1, ()), (()), (y12.1.2.2.2.2.2.2.2.1.1, ()), (y12.1.2.2.2.2.2.2.2.2.1.1, ()), (y12.1.2.2.2.2.2.2.2.2.2.1.1, ()), (y12.1.2.2.2.2.2.2.2.2.2.2.1.1, ()), (y12.1.2.2.2.2.2.2.2.2.2.2.2.1.1, ()), (()), (()), (()), ()), (y12.2.1, y12.2.2.1, (y12.2.2.2.1.1, y12.2.2.2.1.2.1, y12.2.2.2.1.2.2.1, y12.2.2.2.1.2.2.2.1, ()), y12.2.2.2.2.1, (y12.2.2.2.2.2.1.1, ()), y12.2.2.2.2.2.2.1, y12.2.2.2.2.2.2.2.1, y12.2.2.2.2.2.2.2.2.1, (y12.2.2.2.2.2.2.2.2.2.1.1, ()), ())))
      (some (((()), (y10.1.2.2.1.1, ()), (()), (()), (()), (y10.1.2.2.2.2.2.2.2.1.1, ()), (()), (y10.1.2.2.2.2.2.2.2.2.2.1.1, ()), (y10.1.2.2.2.2.2.2.2.2.2.2.1.1, ()), (y10.1.2.2.2.2.2.2.2.2.2.2.2.1.1, ()), (y10.1.2.2.2.2.2.2.2.2.2.2.2.2.1.1, ()), (y10.1.2.2.2.2.2.2.2.2.2.2.2.2.2.1.1, ()), (()), (()), (()), ()), (y10.2.1, y10.2.2.1, (y10.2.2.2.1.1, y10.2.2.2.1.2.1, y10.2.2.2.1.2.2.1, y10.2.2.2.1.2.2.2.1, ()), y10.2.2.2.2.1, (y10.2.2.2.2.2.1.1, ()), y10.2.2.2.2.2.2.1, y10.2.2.2.2.2.2.2.1, y10.2.2.2.2.2.2.2.2.1, (y10.2.2.2.2.2.2.2.2.2.1.1, ()), ())))).bind fun y13 =>
  (br (decide (y13.1.2.2.2.2.2.2.2.2.2.1.1 = 0))
      (req (i64ok ((lenL y13.2.2.1) - (lenL y13.2.2.2.2.2.2.2.1))) <|
      some (((()), (y13.1.2.1.1, ()), (()), (()), (()), (y13.1.2.2.2.2.2.1.1, ()), (()), (y13.1.2.2.2.2.2.2.2.1.1, ()), (y13.1.2.2.2.2.2.2.2.2.1.1, ()), (y13.1.2.2.2.2.2.2.2.2.2.1.1, ()), (y13.1.2.2.2.2.2.2.2.2.2.2.1.1, ()), (y13.1.2.2.2.2.2.2.2.2.2.2.2.1.1, ()), (()), (()), (()), ((lenL y13.2.2.1) - (lenL y13.2.2.2.2.2.2.2.1), ()), ()), (y13.2.1, y13.2.2.1, (y13.2.2.2.1.1, y13.2.2.2.1.2.1, y13.2.2.2.1.2.2.1, y13.2.2.2.1.2.2.2.1, ()), y13.2.2.2.2.1, (y13.2.2.2.2.2.1.1, ()), y13.2.2.2.2.2.2.1, y13.2.2.2.2.2.2.2.1, y13.2.2.2.2.2.2.2.2.1, (y13.2.2.2.2.2.2.2.2.2.1.1, ()), ())))
      (some (((()), (y13.1.2.1.1, ()), (()), (()), (()), (y13.1.2.2.2.2.2.1.1, ()), (()), (y13.1.2.2.2.2.2.2.2.1.1, ()), (y13.1.2.2.2.2.2.2.2.2.1.1, ()), (y13.1.2.2.2.2.2.2.2.2.2.1.1, ()), (y13.1.2.2.2.2.2.2.2.2.2.2.1.1, ()), (y13.1.2.2.2.2.2.2.2.2.2.2.2.1.1, ()), (()), (()), (()), (0, ()), ()), (y13.2.1, y13.2.2.1, (y13.2.2.2.1.1, y13.2.2.2.1.2.1, y13.2.2.2.1.2.2.1, y13.2.2.2.1.2.2.2.1, ()), y13.2.2.2.2.1, (y13.2.2.2.2.2.1.1, ()), y13.2.2.2.2.2.2.1, y13.2.2.2.2.2.2.2.1, y13.2.2.2.2.2.2.2.2.1, (y13.2.2.2.2.2.2.2.2.2.1.1, ()), ())))).bind fun y14 =>
  law_leaseBegun_t.bind fun y15 =>
  (br y15.1
      ((lease_Pool_t (⟨(⟨y14.2.2.2.1.1, y14.2.2.2.1.2.1, y14.2.2.2.1.2.2.1⟩ : Ad), y14.2.2.2.1.2.2.2.1⟩ : Pf) y14.2.1).bind fun y16 =>
      (R_CheckPool_t (⟨(⟨y14.2.2.2.1.1, y14.2.2.2.1.2.1, y14.2.2.2.1.2.2.1⟩ : Ad), y14.2.2.2.1.2.2.2.1⟩ : Pf) y14.2.1).bind fun y17 =>
      some (decide (y16.1 = y17.1)))
      (some false)).bind fun c16 =>
  (br c16
      ((lease_Check_t (⟨(⟨y14.2.2.2.1.1, y14.2.2.2.1.2.1, y14.2.2.2.1.2.2.1⟩ : Ad), y14.2.2.2.1.2.2.2.1⟩ : Pf) y14.2.1 y14.2.2.1 y14.1.2.1.1).bind fun y17 =>
      some (decide (y17.1 = y14.1.2.2.2.2.2.2.2.2.2.2.1.1)))
      (some false)).bind fun c17 =>
  (br c17
      ((law_leasesAre_t y14.2.2.2.2.1 y14.1.2.2.2.2.2.1.1 y14.1.2.2.2.2.2.2.2.2.2.2.2.1.1 y14.2.2.2.2.2.2.2.2.1).bind fun y18 =>
      some y18.1)
      (some false)).bind fun c18 =>
  (br c18
      (some (eqAd y14.2.2.2.2.2.1.1 y14.2.2.2.2.2.2.2.2.2.1.1))
      (some false)).bind fun c19 =>
  (br c19
      ((law_leasesAre_t y14.2.2.2.2.2.2.1 y14.1.2.2.2.2.2.2.2.2.1.1 y14.1.2.2.2.2.2.2.2.2.2.1.1 y14.2.2.2.2.2.2.2.1).bind fun y20 =>
      some y20.1)
      (some false)).bind fun c20 =>
  (br c20
      (some (decide (y14.1.2.2.2.2.2.2.2.1.1 = y14.1.2.2.2.2.2.2.2.2.2.2.2.2.2.2.2.1.1)))
      (some false)).bind fun c21 =>
  some (c21, ())

noncomputable def law_LeaseOver_L16 (rec : (((Unit) × (Int × Unit) × (Unit) × (Int × Unit) × Unit) × (List Ls × List Ls × Unit)) → Option ((((Bool × Unit) × Unit) × (List Ls × Unit)) ⊕ ((Unit) × (List Ls × Unit)))) (x : (((Unit) × (Int × Unit) × (Unit) × (Int × Unit) × Unit) × (List Ls × List Ls × Unit))) : Option ((((Bool × Unit) × Unit) × (List Ls × Unit)) ⊕ ((Unit) × (List Ls × Unit))) :=
  let v0 := x.1.2.1.1
  let v1 := x.1.2.2.2.1.1
  let v2 := x.2.1
  let v3 := x.2.2.1
  br (decide (v1 < lenL v3))
    (req (inRange v1 (lenL v3)) <|
    req (inRange v1 (lenL v3)) <|
    (geti v3 v1).bind fun p1 =>
    (R_WhoAt_t v2 p1.who).bind fun y2 =>
    (br (decide (y2.1 < 0))
        (some true)
        (req (inRange v1 (lenL v3)) <|
        req (inRange v1 (lenL v3)) <|
        (geti v3 v1).bind fun p3 =>
        some (decide (p3.upto < v0)))).bind fun c3 =>
    br c3
      (some (Sum.inl (((false, ()), ()), (v2, ()))))
      (req (i64ok (v1 + 1)) <|
      rec (((()), (v0, ()), (()), (v1 + 1, ()), ()), (v2, v3, ()))))
    (some (Sum.inr (((()), (v2, ())))))

/-- yardarm/yardarmlaw.LeaseOver -/
noncomputable def law_LeaseOver_t (a0 : List Ls) (a1 : Int) (a2 : Int) : Option (Bool × Unit) :=
  law_leaseBegun_t.bind fun y1 =>
  br (!y1.1)
    (some (false, ()))
    ((lease_Drop_t a0 a1).bind fun y2 =>
    br (!decide (y2.2.2.1 = 0))
      ((br (decide (lenL y2.1 = 0))
          (some (decide (y2.2.1 = 0)))
          (some false)).bind fun c3 =>
      some (c3, ()))
      ((lease_Drop_t y2.1 a1).bind fun y3 =>
      (br (!decide (y3.2.2.1 = 0))
          (some true)
          (some (!decide (y3.2.1 = 0)))).bind fun c4 =>
      (br c4
          (some true)
          ((R_SameLeases_t y2.1 y3.1).bind fun y5 =>
          some (!y5.1))).bind fun c5 =>
      (br c5
          (some true)
          (req (i64ok ((lenL y2.1) + y2.2.1)) <|
          some (!decide ((lenL y2.1) + y2.2.1 = lenL a0)))).bind fun c6 =>
      br c6
        (some (false, ()))
        ((br (decide (a2 < a1))
            (some true)
            (some (decide (a2 > 9999)))).bind fun c7 =>
        br c7
          (some (true, ()))
          ((lease_Drop_t y2.1 a2).bind fun y8 =>
          (lease_Drop_t a0 a2).bind fun y9 =>
          (br (!decide (y8.2.2.1 = 0))
              (some true)
              (some (!decide (y9.2.2.1 = 0)))).bind fun c10 =>
          (br c10
              (some true)
              ((R_SameLeases_t y8.1 y9.1).bind fun y11 =>
              some (!y11.1))).bind fun c11 =>
          (br c11
              (some true)
              (some (decide (lenL y9.1 > lenL y2.1)))).bind fun c12 =>
          br c12
            (some (false, ()))
            ((loopN law_LeaseOver_L16 FUEL (((()), (a2, ()), (()), (0, ()), ()), (a0, y9.1, ()))).bind fun y13 =>
            sumC y13 (fun y14 =>
              some (y14.1.1.1, ())) (fun y15 =>
              some (true, ())))))))

end Go.Ma
