/-
  Parts: Pm Lc Ld Le Lg Lh Li Lo Ca Cf Ph Ce Pi Pj Pk Cb Cd Lm Pd Pe Pg Sa Cc Sb Sc.
-/
import Derived.Test.YtbajhmdekihagaaGreatUt3
namespace Go.Ma
open Go
noncomputable def state_Check_L4 (rec : (((Unit) × (Unit) × (Int × Unit) × (Int × Unit) × Unit) × (List (List Ad) × List Pf × List Ls × (Int × Unit) × Unit)) → Option ((((Int × Unit) × Unit) × (List (List Ad) × List Pf × List Ls × Unit)) ⊕ (((Unit) × Unit) × (List (List Ad) × List Pf × List Ls × (Int × Unit) × Unit)))) (x : (((Unit) × (Unit) × (Int × Unit) × (Int × Unit) × Unit) × (List (List Ad) × List Pf × List Ls × (Int × Unit) × Unit))) : Option ((((Int × Unit) × Unit) × (List (List Ad) × List Pf × List Ls × Unit)) ⊕ (((Unit) × Unit) × (List (List Ad) × List Pf × List Ls × (Int × Unit) × Unit))) :=
 let v0 := x.1.2.2.1.1
 let v1 := x.1.2.2.2.1.1
 let v2 := x.2.1
 let v3 := x.2.2.1
 let v4 := x.2.2.2.1
 let v5 := x.2.2.2.2.1.1
 br (decide (v1 < v0))
  (req (inRange v1 (lenL v3)) <|
  (geti v3 v1).bind fun p1 =>
  (lease_Pool_t p1 (getL v2 v1)).bind fun y2 =>
  br (!decide (y2.1 = 0))
   (some (Sum.inl (((y2.1, ()), ()), (v2, v3, v4, ()))))
   (req (i64ok (v1 + 1)) <|
   rec (((()), (()), (v0, ()), (v1 + 1, ()), ()), (v2, v3, v4, (v5, ()), ()))))
  (some (Sum.inr ((((()), ()), (v2, v3, v4, (v5, ()), ())))))
noncomputable def state_Check_L11 (rec : (((Unit) × (Int × Unit) × Unit) × (List (List Ad) × List Pf × List Ls × (Int × Unit) × Unit)) → Option ((((Int × Unit) × Unit) × (List (List Ad) × List Pf × List Ls × Unit)) ⊕ (((Unit) × Unit) × (List (List Ad) × List Pf × List Ls × (Int × Unit) × Unit)))) (x : (((Unit) × (Int × Unit) × Unit) × (List (List Ad) × List Pf × List Ls × (Int × Unit) × Unit))) : Option ((((Int × Unit) × Unit) × (List (List Ad) × List Pf × List Ls × Unit)) ⊕ (((Unit) × Unit) × (List (List Ad) × List Pf × List Ls × (Int × Unit) × Unit))) :=
 let v0 := x.1.2.1.1
 let v1 := x.2.1
 let v2 := x.2.2.1
 let v3 := x.2.2.2.1
 let v4 := x.2.2.2.2.1.1
 br (decide (v0 < lenL v2))
  (req (i64ok (v0 - 1)) <|
  req (inRange (v0 - 1) (lenL v2)) <|
  req (inRange (v0 - 1) (lenL v2)) <|
  (geti v2 (v0 - 1)).bind fun p1 =>
  req (inRange v0 (lenL v2)) <|
  req (inRange v0 (lenL v2)) <|
  (geti v2 v0).bind fun p2 =>
  (prefix_Order_t p1 p2).bind fun y3 =>
  (br (decide (y3.1 ≥ 0))
    (some true)
    (req (i64ok (v0 - 1)) <|
    req (inRange (v0 - 1) (lenL v2)) <|
    req (inRange (v0 - 1) (lenL v2)) <|
    (geti v2 (v0 - 1)).bind fun p4 =>
    req (inRange v0 (lenL v2)) <|
    req (inRange v0 (lenL v2)) <|
    (geti v2 v0).bind fun p5 =>
    (prefix_Meet_t p4 p5).bind fun y6 =>
    some y6.1)).bind fun c4 =>
  br c4
   (some (Sum.inl (((4, ()), ()), (v1, v2, v3, ()))))
   (req (i64ok (v0 + 1)) <|
   rec (((()), (v0 + 1, ()), ()), (v1, v2, v3, (v4, ()), ()))))
  (some (Sum.inr ((((()), ()), (v1, v2, v3, (v4, ()), ())))))
noncomputable def state_Check_L21 (rec : (((Unit) × (Unit) × (Int × Unit) × (Int × Unit) × Unit) × (List (List Ad) × List Pf × List Ls × (Int × Unit) × Unit)) → Option ((((Int × Unit) × Unit) × (List (List Ad) × List Pf × List Ls × Unit)) ⊕ ((Unit) × (List (List Ad) × List Pf × List Ls × Unit)))) (x : (((Unit) × (Unit) × (Int × Unit) × (Int × Unit) × Unit) × (List (List Ad) × List Pf × List Ls × (Int × Unit) × Unit))) : Option ((((Int × Unit) × Unit) × (List (List Ad) × List Pf × List Ls × Unit)) ⊕ ((Unit) × (List (List Ad) × List Pf × List Ls × Unit))) :=
 let v0 := x.1.2.2.1.1
 let v1 := x.1.2.2.2.1.1
 let v2 := x.2.1
 let v3 := x.2.2.1
 let v4 := x.2.2.2.1
 let v5 := x.2.2.2.2.1.1
 br (decide (v1 < v0))
  (req (inRange v1 (lenL v4)) <|
  (geti v4 v1).bind fun p1 =>
  (state_poolOf_t (v3, v2) v4 v5 p1.ad).bind fun y2 =>
  br (decide (y2.1 < 0))
   (some (Sum.inl (((5, ()), ()), (v2, v3, v4, ()))))
   (req (i64ok (v1 + 1)) <|
   req ((decide (0 ≤ v1 + 1)) && (decide (v1 + 1 ≤ lenL v4))) <|
   (lease_Twice_t (subL v4 0 (v1 + 1))).bind fun y3 =>
   br y3.1
    (some (Sum.inl (((6, ()), ()), (v2, v3, v4, ()))))
    (br (decide (p1.upto < v5))
     (some (Sum.inl (((4, ()), ()), (v2, v3, v4, ()))))
     (req (i64ok (v1 + 1)) <|
     rec (((()), (()), (v0, ()), (v1 + 1, ()), ()), (v2, v3, v4, (v5, ()), ()))))))
  (some (Sum.inr (((()), (v2, v3, v4, ())))))
noncomputable def state_Check_t (a0 : List Pf × List (List Ad)) (a1 : List Ls) (a2 : Int) : Option (Int × Unit) :=
 br (decide (lenL a0.1 > 3))
  (some (2, ()))
  ((loopN state_Check_L4 FUEL (((()), (()), (lenL a0.1, ()), (0, ()), ()), (a0.2, a0.1, a1, (a2, ()), ()))).bind fun y1 =>
  sumC y1 (fun y2 =>
   some (y2.1.1.1, ())) (fun y3 =>
   (loopN state_Check_L11 FUEL (((()), (1, ()), ()), (y3.2.1, y3.2.2.1, y3.2.2.2.1, (y3.2.2.2.2.1.1, ()), ()))).bind fun y4 =>
   sumC y4 (fun y5 =>
    some (y5.1.1.1, ())) (fun y6 =>
    (state_within_t y6.2.2.2.2.1.1 0 9999).bind fun y7 =>
    br (!y7.1)
     (some (3, ()))
     ((lease_All_t y6.2.2.2.1 y6.2.2.2.2.1.1).bind fun y8 =>
     br (!decide (y8.1 = 0))
      (some (y8.1, ()))
      ((loopN state_Check_L21 FUEL (((()), (()), (lenL y6.2.2.2.1, ()), (0, ()), ()), (y6.2.1, y6.2.2.1, y6.2.2.2.1, (y6.2.2.2.2.1.1, ()), ()))).bind fun y9 =>
      sumC y9 (fun y10 =>
       some (y10.1.1.1, ())) (fun y11 =>
       some (0, ())))))))
noncomputable def zq27 (rec : (((Unit) × (Unit) × (Int × Unit) × (Int × Unit) × Unit) × (List Ad × List Ls × (Bool × Int × Int × Int × Unit) × (ByteArray × Unit) × List Ls × (Ad × Unit) × List Ls × (Bool × Int × Int × Int × Unit) × Unit)) → Option ((((Int × Unit) × Unit) × (List Ad × List Ls × (Bool × Int × Int × Int × Unit) × (ByteArray × Unit) × List Ls × (Ad × Unit) × List Ls × (Bool × Int × Int × Int × Unit) × Unit)) ⊕ ((Unit) × (List Ad × List Ls × (Bool × Int × Int × Int × Unit) × (ByteArray × Unit) × List Ls × (Ad × Unit) × List Ls × (Bool × Int × Int × Int × Unit) × Unit)))) (x : (((Unit) × (Unit) × (Int × Unit) × (Int × Unit) × Unit) × (List Ad × List Ls × (Bool × Int × Int × Int × Unit) × (ByteArray × Unit) × List Ls × (Ad × Unit) × List Ls × (Bool × Int × Int × Int × Unit) × Unit))) : Option ((((Int × Unit) × Unit) × (List Ad × List Ls × (Bool × Int × Int × Int × Unit) × (ByteArray × Unit) × List Ls × (Ad × Unit) × List Ls × (Bool × Int × Int × Int × Unit) × Unit)) ⊕ ((Unit) × (List Ad × List Ls × (Bool × Int × Int × Int × Unit) × (ByteArray × Unit) × List Ls × (Ad × Unit) × List Ls × (Bool × Int × Int × Int × Unit) × Unit))) :=
 let v0 := x.1.2.2.1.1
 let v1 := x.1.2.2.2.1.1
 let v2 := x.2.1
 let v3 := x.2.2.1
 let v4 := x.2.2.2.1.1
 let v5 := x.2.2.2.1.2.1
 let v6 := x.2.2.2.1.2.2.1
 let v7 := x.2.2.2.1.2.2.2.1
 let v8 := x.2.2.2.2.1.1
 let v9 := x.2.2.2.2.2.1
 let v10 := x.2.2.2.2.2.2.1.1
 let v11 := x.2.2.2.2.2.2.2.1
 let v12 := x.2.2.2.2.2.2.2.2.1.1
 let v13 := x.2.2.2.2.2.2.2.2.1.2.1
 let v14 := x.2.2.2.2.2.2.2.2.1.2.2.1
 let v15 := x.2.2.2.2.2.2.2.2.1.2.2.2.1
 br (decide (v1 < v0))
  (req (inRange v1 (lenL v11)) <|
  (geti v11 v1).bind fun p1 =>
  (lease_Raw_1_t p1 v8).bind fun y2 =>
  br y2.1
   (some (Sum.inl (((v1, ()), ()), (v2, v3, (v4, v5, v6, v7, ()), (v8, ()), v9, (v10, ()), v11, (v12, v13, v14, v15, ()), ()))))
   (req (i64ok (v1 + 1)) <|
   rec (((()), (()), (v0, ()), (v1 + 1, ()), ()), (v2, v3, (v4, v5, v6, v7, ()), (v8, ()), v9, (v10, ()), v11, (v12, v13, v14, v15, ()), ()))))
  (some (Sum.inr (((()), (v2, v3, (v4, v5, v6, v7, ()), (v8, ()), v9, (v10, ()), v11, (v12, v13, v14, v15, ()), ())))))
noncomputable def zq23 (rec : (((Unit) × (Unit) × (Unit) × (Int × Unit) × (Int × Unit) × (Int × Unit) × Unit) × (List Ad × List Ls × (Bool × Int × Int × Int × Unit) × (ByteArray × Unit) × List Ls × (Ad × Unit) × List Ls × (Bool × Int × Int × Int × Unit) × (Ad × Unit) × (Ls × Unit) × (Ls × Unit) × Unit)) → Option (((Unit) × (Unit) × (Unit) × (Int × Unit) × (Int × Unit) × Unit) × (List Ad × List Ls × (Bool × Int × Int × Int × Unit) × (ByteArray × Unit) × List Ls × (Ad × Unit) × List Ls × (Bool × Int × Int × Int × Unit) × (Ad × Unit) × (Ls × Unit) × (Ls × Unit) × Unit))) (x : (((Unit) × (Unit) × (Unit) × (Int × Unit) × (Int × Unit) × (Int × Unit) × Unit) × (List Ad × List Ls × (Bool × Int × Int × Int × Unit) × (ByteArray × Unit) × List Ls × (Ad × Unit) × List Ls × (Bool × Int × Int × Int × Unit) × (Ad × Unit) × (Ls × Unit) × (Ls × Unit) × Unit))) : Option (((Unit) × (Unit) × (Unit) × (Int × Unit) × (Int × Unit) × Unit) × (List Ad × List Ls × (Bool × Int × Int × Int × Unit) × (ByteArray × Unit) × List Ls × (Ad × Unit) × List Ls × (Bool × Int × Int × Int × Unit) × (Ad × Unit) × (Ls × Unit) × (Ls × Unit) × Unit)) :=
 let v0 := x.1.2.2.2.1.1
 let v1 := x.1.2.2.2.2.1.1
 let v2 := x.1.2.2.2.2.2.1.1
 let v3 := x.2.1
 let v4 := x.2.2.1
 let v5 := x.2.2.2.1.1
 let v6 := x.2.2.2.1.2.1
 let v7 := x.2.2.2.1.2.2.1
 let v8 := x.2.2.2.1.2.2.2.1
 let v9 := x.2.2.2.2.1.1
 let v10 := x.2.2.2.2.2.1
 let v11 := x.2.2.2.2.2.2.1.1
 let v12 := x.2.2.2.2.2.2.2.1
 let v13 := x.2.2.2.2.2.2.2.2.1.1
 let v14 := x.2.2.2.2.2.2.2.2.1.2.1
 let v15 := x.2.2.2.2.2.2.2.2.1.2.2.1
 let v16 := x.2.2.2.2.2.2.2.2.1.2.2.2.1
 let v17 := x.2.2.2.2.2.2.2.2.2.1.1
 let v18 := x.2.2.2.2.2.2.2.2.2.2.1.1
 let v19 := x.2.2.2.2.2.2.2.2.2.2.2.1.1
 br (decide (v1 < v2))
  (req (i64ok (v1 + v2)) <|
  req (inRange (convI .i64 (aop .shr .u64 (convI .u64 (v1 + v2)) 1)) (lenL v12)) <|
  (geti v12 (convI .i64 (aop .shr .u64 (convI .u64 (v1 + v2)) 1))).bind fun p1 =>
  (lease_Raw_2_t p1 v19).bind fun y2 =>
  br (decide (y2.1 < 0))
   (req (i64ok ((convI .i64 (aop .shr .u64 (convI .u64 (v1 + v2)) 1)) + 1)) <|
   rec (((()), (()), (()), (v0, ()), ((convI .i64 (aop .shr .u64 (convI .u64 (v1 + v2)) 1)) + 1, ()), (v2, ()), ()), (v3, v4, (v5, v6, v7, v8, ()), (v9, ()), v10, (v11, ()), v12, (v13, v14, v15, v16, ()), (v17, ()), (v18, ()), (v19, ()), ())))
   (rec (((()), (()), (()), (v0, ()), (v1, ()), (convI .i64 (aop .shr .u64 (convI .u64 (v1 + v2)) 1), ()), ()), (v3, v4, (v5, v6, v7, v8, ()), (v9, ()), v10, (v11, ()), v12, (v13, v14, v15, v16, ()), (v17, ()), (v18, ()), (v19, ()), ()))))
  (some (((()), (()), (()), (v0, ()), (v1, ()), ()), (v3, v4, (v5, v6, v7, v8, ()), (v9, ()), v10, (v11, ()), v12, (v13, v14, v15, v16, ()), (v17, ()), (v18, ()), (v19, ()), ())))
noncomputable def zq22 (rec : (((Unit) × (Unit) × (Unit) × (Int × Unit) × (Int × Unit) × (Int × Unit) × Unit) × (List Ad × List Ls × (Bool × Int × Int × Int × Unit) × (ByteArray × Unit) × List Ls × (Ad × Unit) × List Ls × (Bool × Int × Int × Int × Unit) × (Ad × Unit) × (Ls × Unit) × (Ls × Unit) × Unit)) → Option (((Unit) × (Unit) × (Unit) × (Int × Unit) × (Int × Unit) × Unit) × (List Ad × List Ls × (Bool × Int × Int × Int × Unit) × (ByteArray × Unit) × List Ls × (Ad × Unit) × List Ls × (Bool × Int × Int × Int × Unit) × (Ad × Unit) × (Ls × Unit) × (Ls × Unit) × Unit))) (x : (((Unit) × (Unit) × (Unit) × (Int × Unit) × (Int × Unit) × (Int × Unit) × Unit) × (List Ad × List Ls × (Bool × Int × Int × Int × Unit) × (ByteArray × Unit) × List Ls × (Ad × Unit) × List Ls × (Bool × Int × Int × Int × Unit) × (Ad × Unit) × (Ls × Unit) × (Ls × Unit) × Unit))) : Option (((Unit) × (Unit) × (Unit) × (Int × Unit) × (Int × Unit) × Unit) × (List Ad × List Ls × (Bool × Int × Int × Int × Unit) × (ByteArray × Unit) × List Ls × (Ad × Unit) × List Ls × (Bool × Int × Int × Int × Unit) × (Ad × Unit) × (Ls × Unit) × (Ls × Unit) × Unit)) :=
 let v0 := x.1.2.2.2.1.1
 let v1 := x.1.2.2.2.2.1.1
 let v2 := x.1.2.2.2.2.2.1.1
 let v3 := x.2.1
 let v4 := x.2.2.1
 let v5 := x.2.2.2.1.1
 let v6 := x.2.2.2.1.2.1
 let v7 := x.2.2.2.1.2.2.1
 let v8 := x.2.2.2.1.2.2.2.1
 let v9 := x.2.2.2.2.1.1
 let v10 := x.2.2.2.2.2.1
 let v11 := x.2.2.2.2.2.2.1.1
 let v12 := x.2.2.2.2.2.2.2.1
 let v13 := x.2.2.2.2.2.2.2.2.1.1
 let v14 := x.2.2.2.2.2.2.2.2.1.2.1
 let v15 := x.2.2.2.2.2.2.2.2.1.2.2.1
 let v16 := x.2.2.2.2.2.2.2.2.1.2.2.2.1
 let v17 := x.2.2.2.2.2.2.2.2.2.1.1
 let v18 := x.2.2.2.2.2.2.2.2.2.2.1.1
 let v19 := x.2.2.2.2.2.2.2.2.2.2.2.1.1
 br (decide (v1 < v2))
  (req (i64ok (v1 + v2)) <|
  req (inRange (convI .i64 (aop .shr .u64 (convI .u64 (v1 + v2)) 1)) (lenL v12)) <|
  (geti v12 (convI .i64 (aop .shr .u64 (convI .u64 (v1 + v2)) 1))).bind fun p1 =>
  (lease_Raw_2_t p1 v19).bind fun y2 =>
  br (decide (y2.1 < 0))
   (req (i64ok ((convI .i64 (aop .shr .u64 (convI .u64 (v1 + v2)) 1)) + 1)) <|
   rec (((()), (()), (()), (v0, ()), ((convI .i64 (aop .shr .u64 (convI .u64 (v1 + v2)) 1)) + 1, ()), (v2, ()), ()), (v3, v4, (v5, v6, v7, v8, ()), (v9, ()), v10, (v11, ()), v12, (v13, v14, v15, v16, ()), (v17, ()), (v18, ()), (v19, ()), ())))
   (rec (((()), (()), (()), (v0, ()), (v1, ()), (convI .i64 (aop .shr .u64 (convI .u64 (v1 + v2)) 1), ()), ()), (v3, v4, (v5, v6, v7, v8, ()), (v9, ()), v10, (v11, ()), v12, (v13, v14, v15, v16, ()), (v17, ()), (v18, ()), (v19, ()), ()))))
  (some (((()), (()), (()), (v0, ()), (v1, ()), ()), (v3, v4, (v5, v6, v7, v8, ()), (v9, ()), v10, (v11, ()), v12, (v13, v14, v15, v16, ()), (v17, ()), (v18, ()), (v19, ()), ())))
noncomputable def lease_Raw_t (a0 : Pf) (a1 : List Ad) (a2 : List Ls) (a3 : ByteArray) (a4 : Int) (a5 : Int) : Option ((List Ls) × Ad × Bool × Unit) :=
 (lease_Live_t a2 a4).bind fun y1 =>
 (loopN zq27 FUEL (((()), (()), (lenL y1.1, ()), (0, ()), ()), (a1, a2, (a0.ad.v6, a0.ad.hi, a0.ad.lo, a0.bits, ()), (a3, ()), ([] : List Ls), ((⟨false, 0, 0⟩ : Ad), ()), y1.1, (a0.ad.v6, a0.ad.hi, a0.ad.lo, a0.bits, ()), ()))).bind fun y2 =>
 sumC y2 (fun y3 =>
  br (decide (y3.1.1.1 ≥ 0))
   (req (i64ok (a4 + a5)) <|
   req (inRange y3.1.1.1 (lenL y3.2.2.2.2.2.2.2.1)) <|
   req (inRange y3.1.1.1 (lenL y3.2.2.2.2.2.2.2.1)) <|
   (geti y3.2.2.2.2.2.2.2.1 y3.1.1.1).bind fun p4 =>
   req (inRange y3.1.1.1 (lenL (seti y3.2.2.2.2.2.2.2.1 y3.1.1.1 (⟨p4.ad, p4.who, a4 + a5⟩ : Ls)))) <|
   req (inRange y3.1.1.1 (lenL (seti y3.2.2.2.2.2.2.2.1 y3.1.1.1 (⟨p4.ad, p4.who, a4 + a5⟩ : Ls)))) <|
   (geti (seti y3.2.2.2.2.2.2.2.1 y3.1.1.1 (⟨p4.ad, p4.who, a4 + a5⟩ : Ls)) y3.1.1.1).bind fun p5 =>
   some (seti y3.2.2.2.2.2.2.2.1 y3.1.1.1 (⟨p4.ad, p4.who, a4 + a5⟩ : Ls), p5.ad, true, ()))
   ((m_lease_book__first_t (⟨(⟨y3.2.2.2.2.2.2.2.2.1.1, y3.2.2.2.2.2.2.2.2.1.2.1, y3.2.2.2.2.2.2.2.2.1.2.2.1⟩ : Ad), y3.2.2.2.2.2.2.2.2.1.2.2.2.1⟩ : Pf) y3.2.1 y3.2.2.2.2.2.2.2.1).bind fun y4 =>
   br (!y4.2.1)
    (some (([] : List Ls), y4.1, false, ()))
    (req (i64ok (a4 + a5)) <|
    ((loopN zq23 FUEL (((()), (()), (()), (lenL y3.2.2.2.2.2.2.2.1, ()), (0, ()), (lenL y3.2.2.2.2.2.2.2.1, ()), ()), (y3.2.1, y3.2.2.1, (y3.2.2.2.1.1, y3.2.2.2.1.2.1, y3.2.2.2.1.2.2.1, y3.2.2.2.1.2.2.2.1, ()), (y3.2.2.2.2.1.1, ()), y3.2.2.2.2.2.1, (y3.2.2.2.2.2.2.1.1, ()), y3.2.2.2.2.2.2.2.1, (y3.2.2.2.2.2.2.2.2.1.1, y3.2.2.2.2.2.2.2.2.1.2.1, y3.2.2.2.2.2.2.2.2.1.2.2.1, y3.2.2.2.2.2.2.2.2.1.2.2.2.1, ()), (y4.1, ()), ((⟨y4.1, y3.2.2.2.2.1.1, a4 + a5⟩ : Ls), ()), ((⟨y4.1, y3.2.2.2.2.1.1, a4 + a5⟩ : Ls), ()), ()))).bind fun y5 =>
     br (decide (y5.1.2.2.2.2.1.1 < y5.1.2.2.2.1.1))
      (req (inRange y5.1.2.2.2.2.1.1 (lenL y5.2.2.2.2.2.2.2.1)) <|
      (geti y5.2.2.2.2.2.2.2.1 y5.1.2.2.2.2.1.1).bind fun p6 =>
      (lease_Raw_2_t p6 y5.2.2.2.2.2.2.2.2.2.2.2.1.1).bind fun y7 =>
      some (y5.1.2.2.2.2.1.1, decide (y7.1 = 0), ()))
      (some (y5.1.2.2.2.2.1.1, false, ()))).bind fun y6 =>
    both
     (dup 1 <|
     req (decide (0 ≤ y6.1) && decide (y6.1 ≤ lenL y3.2.2.2.2.2.2.2.1) && room (lenL y3.2.2.2.2.2.2.2.1) 1) <|
     some (insL y3.2.2.2.2.2.2.2.1 y6.1 (⟨y4.1, y3.2.2.2.2.1.1, a4 + a5⟩ : Ls), y4.1, true, ()))
     (req (decide (0 ≤ y6.1) && decide (y6.1 ≤ lenL y3.2.2.2.2.2.2.2.1) && room (lenL y3.2.2.2.2.2.2.2.1) 1) <|
     some (insL y3.2.2.2.2.2.2.2.1 y6.1 (⟨y4.1, y3.2.2.2.2.1.1, a4 + a5⟩ : Ls), y4.1, true, ()))))) (fun y7 =>
  (m_lease_book__first_t (⟨(⟨y7.2.2.2.2.2.2.2.2.1.1, y7.2.2.2.2.2.2.2.2.1.2.1, y7.2.2.2.2.2.2.2.2.1.2.2.1⟩ : Ad), y7.2.2.2.2.2.2.2.2.1.2.2.2.1⟩ : Pf) y7.2.1 y7.2.2.2.2.2.2.2.1).bind fun y8 =>
  br (!y8.2.1)
   (some (([] : List Ls), y8.1, false, ()))
   (req (i64ok (a4 + a5)) <|
   ((loopN zq22 FUEL (((()), (()), (()), (lenL y7.2.2.2.2.2.2.2.1, ()), (0, ()), (lenL y7.2.2.2.2.2.2.2.1, ()), ()), (y7.2.1, y7.2.2.1, (y7.2.2.2.1.1, y7.2.2.2.1.2.1, y7.2.2.2.1.2.2.1, y7.2.2.2.1.2.2.2.1, ()), (y7.2.2.2.2.1.1, ()), y7.2.2.2.2.2.1, (y7.2.2.2.2.2.2.1.1, ()), y7.2.2.2.2.2.2.2.1, (y7.2.2.2.2.2.2.2.2.1.1, y7.2.2.2.2.2.2.2.2.1.2.1, y7.2.2.2.2.2.2.2.2.1.2.2.1, y7.2.2.2.2.2.2.2.2.1.2.2.2.1, ()), (y8.1, ()), ((⟨y8.1, y7.2.2.2.2.1.1, a4 + a5⟩ : Ls), ()), ((⟨y8.1, y7.2.2.2.2.1.1, a4 + a5⟩ : Ls), ()), ()))).bind fun y9 =>
    br (decide (y9.1.2.2.2.2.1.1 < y9.1.2.2.2.1.1))
     (req (inRange y9.1.2.2.2.2.1.1 (lenL y9.2.2.2.2.2.2.2.1)) <|
     (geti y9.2.2.2.2.2.2.2.1 y9.1.2.2.2.2.1.1).bind fun p10 =>
     (lease_Raw_2_t p10 y9.2.2.2.2.2.2.2.2.2.2.2.1.1).bind fun y11 =>
     some (y9.1.2.2.2.2.1.1, decide (y11.1 = 0), ()))
     (some (y9.1.2.2.2.2.1.1, false, ()))).bind fun y10 =>
   both
    (dup 1 <|
    req (decide (0 ≤ y10.1) && decide (y10.1 ≤ lenL y7.2.2.2.2.2.2.2.1) && room (lenL y7.2.2.2.2.2.2.2.1) 1) <|
    some (insL y7.2.2.2.2.2.2.2.1 y10.1 (⟨y8.1, y7.2.2.2.2.1.1, a4 + a5⟩ : Ls), y8.1, true, ()))
    (req (decide (0 ≤ y10.1) && decide (y10.1 ≤ lenL y7.2.2.2.2.2.2.2.1) && room (lenL y7.2.2.2.2.2.2.2.1) 1) <|
    some (insL y7.2.2.2.2.2.2.2.1 y10.1 (⟨y8.1, y7.2.2.2.2.1.1, a4 + a5⟩ : Ls), y8.1, true, ()))))
noncomputable def zq58 (rec : (((Unit) × (Unit) × (Int × Unit) × (Int × Unit) × Unit) × (List (List Ad) × List Pf × List Ls × (Int × Unit) × (Oq × Unit) × (Int × Unit) × List (List Ad) × List Pf × List Ls × (Ad × Unit) × List (List Ad) × List Pf × List Ls × (Int × Unit) × (Oq × Unit) × (Ad × Unit) × (Pf × Unit) × Unit)) → Option ((((Int × Unit) × Unit) × (List (List Ad) × List Pf × List Ls × (Int × Unit) × (Oq × Unit) × (Int × Unit) × List (List Ad) × List Pf × List Ls × (Ad × Unit) × List (List Ad) × List Pf × List Ls × (Int × Unit) × (Oq × Unit) × (Ad × Unit) × (Pf × Unit) × Unit)) ⊕ ((Unit) × (List (List Ad) × List Pf × List Ls × (Int × Unit) × (Oq × Unit) × (Int × Unit) × List (List Ad) × List Pf × List Ls × (Ad × Unit) × List (List Ad) × List Pf × List Ls × (Int × Unit) × (Oq × Unit) × (Ad × Unit) × (Pf × Unit) × Unit)))) (x : (((Unit) × (Unit) × (Int × Unit) × (Int × Unit) × Unit) × (List (List Ad) × List Pf × List Ls × (Int × Unit) × (Oq × Unit) × (Int × Unit) × List (List Ad) × List Pf × List Ls × (Ad × Unit) × List (List Ad) × List Pf × List Ls × (Int × Unit) × (Oq × Unit) × (Ad × Unit) × (Pf × Unit) × Unit))) : Option ((((Int × Unit) × Unit) × (List (List Ad) × List Pf × List Ls × (Int × Unit) × (Oq × Unit) × (Int × Unit) × List (List Ad) × List Pf × List Ls × (Ad × Unit) × List (List Ad) × List Pf × List Ls × (Int × Unit) × (Oq × Unit) × (Ad × Unit) × (Pf × Unit) × Unit)) ⊕ ((Unit) × (List (List Ad) × List Pf × List Ls × (Int × Unit) × (Oq × Unit) × (Int × Unit) × List (List Ad) × List Pf × List Ls × (Ad × Unit) × List (List Ad) × List Pf × List Ls × (Int × Unit) × (Oq × Unit) × (Ad × Unit) × (Pf × Unit) × Unit))) :=
 let v0 := x.1.2.2.1.1
 let v1 := x.1.2.2.2.1.1
 let v2 := x.2.1
 let v3 := x.2.2.1
 let v4 := x.2.2.2.1
 let v5 := x.2.2.2.2.1.1
 let v6 := x.2.2.2.2.2.1.1
 let v7 := x.2.2.2.2.2.2.1.1
 let v8 := x.2.2.2.2.2.2.2.1
 let v9 := x.2.2.2.2.2.2.2.2.1
 let v10 := x.2.2.2.2.2.2.2.2.2.1
 let v11 := x.2.2.2.2.2.2.2.2.2.2.1.1
 let v12 := x.2.2.2.2.2.2.2.2.2.2.2.1
 let v13 := x.2.2.2.2.2.2.2.2.2.2.2.2.1
 let v14 := x.2.2.2.2.2.2.2.2.2.2.2.2.2.1
 let v15 := x.2.2.2.2.2.2.2.2.2.2.2.2.2.2.1.1
 let v16 := x.2.2.2.2.2.2.2.2.2.2.2.2.2.2.2.1.1
 let v17 := x.2.2.2.2.2.2.2.2.2.2.2.2.2.2.2.2.1.1
 let v18 := x.2.2.2.2.2.2.2.2.2.2.2.2.2.2.2.2.2.1.1
 br (decide (v1 < v0))
  (req (inRange v1 (lenL v13)) <|
  (geti v13 v1).bind fun p1 =>
  (m_state_doer__pool_1_t p1 (getL v12 v1) v18).bind fun y2 =>
  br y2.1
   (some (Sum.inl (((v1, ()), ()), (v2, v3, v4, (v5, ()), (v6, ()), (v7, ()), v8, v9, v10, (v11, ()), v12, v13, v14, (v15, ()), (v16, ()), (v17, ()), (v18, ()), ()))))
   (req (i64ok (v1 + 1)) <|
   rec (((()), (()), (v0, ()), (v1 + 1, ()), ()), (v2, v3, v4, (v5, ()), (v6, ()), (v7, ()), v8, v9, v10, (v11, ()), v12, v13, v14, (v15, ()), (v16, ()), (v17, ()), (v18, ()), ()))))
  (some (Sum.inr (((()), (v2, v3, v4, (v5, ()), (v6, ()), (v7, ()), v8, v9, v10, (v11, ()), v12, v13, v14, (v15, ()), (v16, ()), (v17, ()), (v18, ()), ())))))
noncomputable def zq49 (rec : (((Unit) × (Unit) × (Unit) × (Int × Unit) × (Int × Unit) × (Int × Unit) × Unit) × (List (List Ad) × List Pf × List Ls × (Int × Unit) × (Oq × Unit) × (Int × Unit) × List (List Ad) × List Pf × List Ls × (Ad × Unit) × List (List Ad) × List Pf × List Ls × (Int × Unit) × (Oq × Unit) × (Ad × Unit) × (Pf × Unit) × (Pf × Unit) × Unit)) → Option (((Unit) × (Unit) × (Unit) × (Int × Unit) × (Int × Unit) × Unit) × (List (List Ad) × List Pf × List Ls × (Int × Unit) × (Oq × Unit) × (Int × Unit) × List (List Ad) × List Pf × List Ls × (Ad × Unit) × List (List Ad) × List Pf × List Ls × (Int × Unit) × (Oq × Unit) × (Ad × Unit) × (Pf × Unit) × (Pf × Unit) × Unit))) (x : (((Unit) × (Unit) × (Unit) × (Int × Unit) × (Int × Unit) × (Int × Unit) × Unit) × (List (List Ad) × List Pf × List Ls × (Int × Unit) × (Oq × Unit) × (Int × Unit) × List (List Ad) × List Pf × List Ls × (Ad × Unit) × List (List Ad) × List Pf × List Ls × (Int × Unit) × (Oq × Unit) × (Ad × Unit) × (Pf × Unit) × (Pf × Unit) × Unit))) : Option (((Unit) × (Unit) × (Unit) × (Int × Unit) × (Int × Unit) × Unit) × (List (List Ad) × List Pf × List Ls × (Int × Unit) × (Oq × Unit) × (Int × Unit) × List (List Ad) × List Pf × List Ls × (Ad × Unit) × List (List Ad) × List Pf × List Ls × (Int × Unit) × (Oq × Unit) × (Ad × Unit) × (Pf × Unit) × (Pf × Unit) × Unit)) :=
 let v0 := x.1.2.2.2.1.1
 let v1 := x.1.2.2.2.2.1.1
 let v2 := x.1.2.2.2.2.2.1.1
 let v3 := x.2.1
 let v4 := x.2.2.1
 let v5 := x.2.2.2.1
 let v6 := x.2.2.2.2.1.1
 let v7 := x.2.2.2.2.2.1.1
 let v8 := x.2.2.2.2.2.2.1.1
 let v9 := x.2.2.2.2.2.2.2.1
 let v10 := x.2.2.2.2.2.2.2.2.1
 let v11 := x.2.2.2.2.2.2.2.2.2.1
 let v12 := x.2.2.2.2.2.2.2.2.2.2.1.1
 let v13 := x.2.2.2.2.2.2.2.2.2.2.2.1
 let v14 := x.2.2.2.2.2.2.2.2.2.2.2.2.1
 let v15 := x.2.2.2.2.2.2.2.2.2.2.2.2.2.1
 let v16 := x.2.2.2.2.2.2.2.2.2.2.2.2.2.2.1.1
 let v17 := x.2.2.2.2.2.2.2.2.2.2.2.2.2.2.2.1.1
 let v18 := x.2.2.2.2.2.2.2.2.2.2.2.2.2.2.2.2.1.1
 let v19 := x.2.2.2.2.2.2.2.2.2.2.2.2.2.2.2.2.2.1.1
 let v20 := x.2.2.2.2.2.2.2.2.2.2.2.2.2.2.2.2.2.2.1.1
 br (decide (v1 < v2))
  (req (i64ok (v1 + v2)) <|
  req (inRange (convI .i64 (aop .shr .u64 (convI .u64 (v1 + v2)) 1)) (lenL v14)) <|
  (geti v14 (convI .i64 (aop .shr .u64 (convI .u64 (v1 + v2)) 1))).bind fun p1 =>
  (m_state_doer__pool_2_t p1 (getL v13 (convI .i64 (aop .shr .u64 (convI .u64 (v1 + v2)) 1))) v20).bind fun y2 =>
  br (decide (y2.1 < 0))
   (req (i64ok ((convI .i64 (aop .shr .u64 (convI .u64 (v1 + v2)) 1)) + 1)) <|
   rec (((()), (()), (()), (v0, ()), ((convI .i64 (aop .shr .u64 (convI .u64 (v1 + v2)) 1)) + 1, ()), (v2, ()), ()), (v3, v4, v5, (v6, ()), (v7, ()), (v8, ()), v9, v10, v11, (v12, ()), v13, v14, v15, (v16, ()), (v17, ()), (v18, ()), (v19, ()), (v20, ()), ())))
   (rec (((()), (()), (()), (v0, ()), (v1, ()), (convI .i64 (aop .shr .u64 (convI .u64 (v1 + v2)) 1), ()), ()), (v3, v4, v5, (v6, ()), (v7, ()), (v8, ()), v9, v10, v11, (v12, ()), v13, v14, v15, (v16, ()), (v17, ()), (v18, ()), (v19, ()), (v20, ()), ()))))
  (some (((()), (()), (()), (v0, ()), (v1, ()), ()), (v3, v4, v5, (v6, ()), (v7, ()), (v8, ()), v9, v10, v11, (v12, ()), v13, v14, v15, (v16, ()), (v17, ()), (v18, ()), (v19, ()), (v20, ()), ())))
noncomputable def zq48 (rec : (((Unit) × (Unit) × (Unit) × (Int × Unit) × (Int × Unit) × (Int × Unit) × Unit) × (List (List Ad) × List Pf × List Ls × (Int × Unit) × (Oq × Unit) × (Int × Unit) × List (List Ad) × List Pf × List Ls × (Ad × Unit) × List (List Ad) × List Pf × List Ls × (Int × Unit) × (Oq × Unit) × (Ad × Unit) × (Pf × Unit) × (Pf × Unit) × Unit)) → Option (((Unit) × (Unit) × (Unit) × (Int × Unit) × (Int × Unit) × Unit) × (List (List Ad) × List Pf × List Ls × (Int × Unit) × (Oq × Unit) × (Int × Unit) × List (List Ad) × List Pf × List Ls × (Ad × Unit) × List (List Ad) × List Pf × List Ls × (Int × Unit) × (Oq × Unit) × (Ad × Unit) × (Pf × Unit) × (Pf × Unit) × Unit))) (x : (((Unit) × (Unit) × (Unit) × (Int × Unit) × (Int × Unit) × (Int × Unit) × Unit) × (List (List Ad) × List Pf × List Ls × (Int × Unit) × (Oq × Unit) × (Int × Unit) × List (List Ad) × List Pf × List Ls × (Ad × Unit) × List (List Ad) × List Pf × List Ls × (Int × Unit) × (Oq × Unit) × (Ad × Unit) × (Pf × Unit) × (Pf × Unit) × Unit))) : Option (((Unit) × (Unit) × (Unit) × (Int × Unit) × (Int × Unit) × Unit) × (List (List Ad) × List Pf × List Ls × (Int × Unit) × (Oq × Unit) × (Int × Unit) × List (List Ad) × List Pf × List Ls × (Ad × Unit) × List (List Ad) × List Pf × List Ls × (Int × Unit) × (Oq × Unit) × (Ad × Unit) × (Pf × Unit) × (Pf × Unit) × Unit)) :=
 let v0 := x.1.2.2.2.1.1
 let v1 := x.1.2.2.2.2.1.1
 let v2 := x.1.2.2.2.2.2.1.1
 let v3 := x.2.1
 let v4 := x.2.2.1
 let v5 := x.2.2.2.1
 let v6 := x.2.2.2.2.1.1
 let v7 := x.2.2.2.2.2.1.1
 let v8 := x.2.2.2.2.2.2.1.1
 let v9 := x.2.2.2.2.2.2.2.1
 let v10 := x.2.2.2.2.2.2.2.2.1
 let v11 := x.2.2.2.2.2.2.2.2.2.1
 let v12 := x.2.2.2.2.2.2.2.2.2.2.1.1
 let v13 := x.2.2.2.2.2.2.2.2.2.2.2.1
 let v14 := x.2.2.2.2.2.2.2.2.2.2.2.2.1
 let v15 := x.2.2.2.2.2.2.2.2.2.2.2.2.2.1
 let v16 := x.2.2.2.2.2.2.2.2.2.2.2.2.2.2.1.1
 let v17 := x.2.2.2.2.2.2.2.2.2.2.2.2.2.2.2.1.1
 let v18 := x.2.2.2.2.2.2.2.2.2.2.2.2.2.2.2.2.1.1
 let v19 := x.2.2.2.2.2.2.2.2.2.2.2.2.2.2.2.2.2.1.1
 let v20 := x.2.2.2.2.2.2.2.2.2.2.2.2.2.2.2.2.2.2.1.1
 br (decide (v1 < v2))
  (req (i64ok (v1 + v2)) <|
  req (inRange (convI .i64 (aop .shr .u64 (convI .u64 (v1 + v2)) 1)) (lenL v14)) <|
  (geti v14 (convI .i64 (aop .shr .u64 (convI .u64 (v1 + v2)) 1))).bind fun p1 =>
  (m_state_doer__pool_2_t p1 (getL v13 (convI .i64 (aop .shr .u64 (convI .u64 (v1 + v2)) 1))) v20).bind fun y2 =>
  br (decide (y2.1 < 0))
   (req (i64ok ((convI .i64 (aop .shr .u64 (convI .u64 (v1 + v2)) 1)) + 1)) <|
   rec (((()), (()), (()), (v0, ()), ((convI .i64 (aop .shr .u64 (convI .u64 (v1 + v2)) 1)) + 1, ()), (v2, ()), ()), (v3, v4, v5, (v6, ()), (v7, ()), (v8, ()), v9, v10, v11, (v12, ()), v13, v14, v15, (v16, ()), (v17, ()), (v18, ()), (v19, ()), (v20, ()), ())))
   (rec (((()), (()), (()), (v0, ()), (v1, ()), (convI .i64 (aop .shr .u64 (convI .u64 (v1 + v2)) 1), ()), ()), (v3, v4, v5, (v6, ()), (v7, ()), (v8, ()), v9, v10, v11, (v12, ()), v13, v14, v15, (v16, ()), (v17, ()), (v18, ()), (v19, ()), (v20, ()), ()))))
  (some (((()), (()), (()), (v0, ()), (v1, ()), ()), (v3, v4, v5, (v6, ()), (v7, ()), (v8, ()), v9, v10, v11, (v12, ()), v13, v14, v15, (v16, ()), (v17, ()), (v18, ()), (v19, ()), (v20, ()), ())))
noncomputable def zq41 (rec : (((Int × Unit) × (Unit) × (Unit) × (Int × Unit) × (Int × Unit) × (Int × Unit) × Unit) × (List (List Ad) × List Pf × List Ls × (Int × Unit) × (Oq × Unit) × (Int × Unit) × List (List Ad) × List Pf × List Ls × (Ad × Unit) × List (List Ad) × List Pf × List Ls × (Int × Unit) × (Oq × Unit) × (Ad × Unit) × (Ad × Unit) × (Ad × Unit) × Unit)) → Option (((Int × Unit) × (Unit) × (Unit) × (Int × Unit) × (Int × Unit) × Unit) × (List (List Ad) × List Pf × List Ls × (Int × Unit) × (Oq × Unit) × (Int × Unit) × List (List Ad) × List Pf × List Ls × (Ad × Unit) × List (List Ad) × List Pf × List Ls × (Int × Unit) × (Oq × Unit) × (Ad × Unit) × (Ad × Unit) × (Ad × Unit) × Unit))) (x : (((Int × Unit) × (Unit) × (Unit) × (Int × Unit) × (Int × Unit) × (Int × Unit) × Unit) × (List (List Ad) × List Pf × List Ls × (Int × Unit) × (Oq × Unit) × (Int × Unit) × List (List Ad) × List Pf × List Ls × (Ad × Unit) × List (List Ad) × List Pf × List Ls × (Int × Unit) × (Oq × Unit) × (Ad × Unit) × (Ad × Unit) × (Ad × Unit) × Unit))) : Option (((Int × Unit) × (Unit) × (Unit) × (Int × Unit) × (Int × Unit) × Unit) × (List (List Ad) × List Pf × List Ls × (Int × Unit) × (Oq × Unit) × (Int × Unit) × List (List Ad) × List Pf × List Ls × (Ad × Unit) × List (List Ad) × List Pf × List Ls × (Int × Unit) × (Oq × Unit) × (Ad × Unit) × (Ad × Unit) × (Ad × Unit) × Unit)) :=
 let v0 := x.1.1.1
 let v1 := x.1.2.2.2.1.1
 let v2 := x.1.2.2.2.2.1.1
 let v3 := x.1.2.2.2.2.2.1.1
 let v4 := x.2.1
 let v5 := x.2.2.1
 let v6 := x.2.2.2.1
 let v7 := x.2.2.2.2.1.1
 let v8 := x.2.2.2.2.2.1.1
 let v9 := x.2.2.2.2.2.2.1.1
 let v10 := x.2.2.2.2.2.2.2.1
 let v11 := x.2.2.2.2.2.2.2.2.1
 let v12 := x.2.2.2.2.2.2.2.2.2.1
 let v13 := x.2.2.2.2.2.2.2.2.2.2.1.1
 let v14 := x.2.2.2.2.2.2.2.2.2.2.2.1
 let v15 := x.2.2.2.2.2.2.2.2.2.2.2.2.1
 let v16 := x.2.2.2.2.2.2.2.2.2.2.2.2.2.1
 let v17 := x.2.2.2.2.2.2.2.2.2.2.2.2.2.2.1.1
 let v18 := x.2.2.2.2.2.2.2.2.2.2.2.2.2.2.2.1.1
 let v19 := x.2.2.2.2.2.2.2.2.2.2.2.2.2.2.2.2.1.1
 let v20 := x.2.2.2.2.2.2.2.2.2.2.2.2.2.2.2.2.2.1.1
 let v21 := x.2.2.2.2.2.2.2.2.2.2.2.2.2.2.2.2.2.2.1.1
 br (decide (v2 < v3))
  (req (i64ok (v2 + v3)) <|
  req (inRange (convI .i64 (aop .shr .u64 (convI .u64 (v2 + v3)) 1)) (lenL (getL v14 v0))) <|
  (geti (getL v14 v0) (convI .i64 (aop .shr .u64 (convI .u64 (v2 + v3)) 1))).bind fun p1 =>
  (addr_Order_t p1 v21).bind fun y2 =>
  br (decide (y2.1 < 0))
   (req (i64ok ((convI .i64 (aop .shr .u64 (convI .u64 (v2 + v3)) 1)) + 1)) <|
   rec (((v0, ()), (()), (()), (v1, ()), ((convI .i64 (aop .shr .u64 (convI .u64 (v2 + v3)) 1)) + 1, ()), (v3, ()), ()), (v4, v5, v6, (v7, ()), (v8, ()), (v9, ()), v10, v11, v12, (v13, ()), v14, v15, v16, (v17, ()), (v18, ()), (v19, ()), (v20, ()), (v21, ()), ())))
   (rec (((v0, ()), (()), (()), (v1, ()), (v2, ()), (convI .i64 (aop .shr .u64 (convI .u64 (v2 + v3)) 1), ()), ()), (v4, v5, v6, (v7, ()), (v8, ()), (v9, ()), v10, v11, v12, (v13, ()), v14, v15, v16, (v17, ()), (v18, ()), (v19, ()), (v20, ()), (v21, ()), ()))))
  (some (((v0, ()), (()), (()), (v1, ()), (v2, ()), ()), (v4, v5, v6, (v7, ()), (v8, ()), (v9, ()), v10, v11, v12, (v13, ()), v14, v15, v16, (v17, ()), (v18, ()), (v19, ()), (v20, ()), (v21, ()), ())))
noncomputable def zq37 (rec : (((Unit) × (ByteArray × Unit) × (Int × Unit) × (Unit) × (Unit) × (Unit) × (Unit) × (Unit) × (Int × Unit) × (Int × Unit) × Unit) × (List (List Ad) × List Pf × List Ls × (Int × Unit) × (Oq × Unit) × (Int × Unit) × List (List Ad) × List Pf × List Ls × (Ad × Unit) × List (List Ad) × List Pf × List Ls × (Int × Unit) × (Oq × Unit) × (Ad × Unit) × (Ad × Unit) × (Bool × Int × Int × Int × Int × Unit) × List Ls × List Ls × Unit)) → Option (((Unit) × (ByteArray × Unit) × (Int × Unit) × (Unit) × (Unit) × (Unit) × (Unit) × Unit) × (List (List Ad) × List Pf × List Ls × (Int × Unit) × (Oq × Unit) × (Int × Unit) × List (List Ad) × List Pf × List Ls × (Ad × Unit) × List (List Ad) × List Pf × List Ls × (Int × Unit) × (Oq × Unit) × (Ad × Unit) × (Ad × Unit) × (Bool × Int × Int × Int × Int × Unit) × List Ls × List Ls × Unit))) (x : (((Unit) × (ByteArray × Unit) × (Int × Unit) × (Unit) × (Unit) × (Unit) × (Unit) × (Unit) × (Int × Unit) × (Int × Unit) × Unit) × (List (List Ad) × List Pf × List Ls × (Int × Unit) × (Oq × Unit) × (Int × Unit) × List (List Ad) × List Pf × List Ls × (Ad × Unit) × List (List Ad) × List Pf × List Ls × (Int × Unit) × (Oq × Unit) × (Ad × Unit) × (Ad × Unit) × (Bool × Int × Int × Int × Int × Unit) × List Ls × List Ls × Unit))) : Option (((Unit) × (ByteArray × Unit) × (Int × Unit) × (Unit) × (Unit) × (Unit) × (Unit) × Unit) × (List (List Ad) × List Pf × List Ls × (Int × Unit) × (Oq × Unit) × (Int × Unit) × List (List Ad) × List Pf × List Ls × (Ad × Unit) × List (List Ad) × List Pf × List Ls × (Int × Unit) × (Oq × Unit) × (Ad × Unit) × (Ad × Unit) × (Bool × Int × Int × Int × Int × Unit) × List Ls × List Ls × Unit)) :=
 let v0 := x.1.2.1.1
 let v1 := x.1.2.2.1.1
 let v2 := x.1.2.2.2.2.2.2.2.2.1.1
 let v3 := x.1.2.2.2.2.2.2.2.2.2.1.1
 let v4 := x.2.1
 let v5 := x.2.2.1
 let v6 := x.2.2.2.1
 let v7 := x.2.2.2.2.1.1
 let v8 := x.2.2.2.2.2.1.1
 let v9 := x.2.2.2.2.2.2.1.1
 let v10 := x.2.2.2.2.2.2.2.1
 let v11 := x.2.2.2.2.2.2.2.2.1
 let v12 := x.2.2.2.2.2.2.2.2.2.1
 let v13 := x.2.2.2.2.2.2.2.2.2.2.1.1
 let v14 := x.2.2.2.2.2.2.2.2.2.2.2.1
 let v15 := x.2.2.2.2.2.2.2.2.2.2.2.2.1
 let v16 := x.2.2.2.2.2.2.2.2.2.2.2.2.2.1
 let v17 := x.2.2.2.2.2.2.2.2.2.2.2.2.2.2.1.1
 let v18 := x.2.2.2.2.2.2.2.2.2.2.2.2.2.2.2.1.1
 let v19 := x.2.2.2.2.2.2.2.2.2.2.2.2.2.2.2.2.1.1
 let v20 := x.2.2.2.2.2.2.2.2.2.2.2.2.2.2.2.2.2.1.1
 let v21 := x.2.2.2.2.2.2.2.2.2.2.2.2.2.2.2.2.2.2.1.1
 let v22 := x.2.2.2.2.2.2.2.2.2.2.2.2.2.2.2.2.2.2.1.2.1
 let v23 := x.2.2.2.2.2.2.2.2.2.2.2.2.2.2.2.2.2.2.1.2.2.1
 let v24 := x.2.2.2.2.2.2.2.2.2.2.2.2.2.2.2.2.2.2.1.2.2.2.1
 let v25 := x.2.2.2.2.2.2.2.2.2.2.2.2.2.2.2.2.2.2.1.2.2.2.2.1
 let v26 := x.2.2.2.2.2.2.2.2.2.2.2.2.2.2.2.2.2.2.2.1
 let v27 := x.2.2.2.2.2.2.2.2.2.2.2.2.2.2.2.2.2.2.2.2.1
 br (decide (v3 < v2))
  (req (inRange v3 (lenL v16)) <|
  (geti v16 v3).bind fun p1 =>
  (prefix_Holds_t (⟨(⟨v21, v22, v23⟩ : Ad), v24⟩ : Pf) p1.ad).bind fun y2 =>
  br y2.1
   (req (room (lenL v26) (lenL ([p1] : List Ls))) <|
   req (i64ok (v3 + 1)) <|
   rec (((()), (v0, ()), (v1, ()), (()), (()), (()), (()), (()), (v2, ()), (v3 + 1, ()), ()), (v4, v5, v6, (v7, ()), (v8, ()), (v9, ()), v10, v11, v12, (v13, ()), v14, v15, v16, (v17, ()), (v18, ()), (v19, ()), (v20, ()), (v21, v22, v23, v24, v25, ()), v26 ++ ([p1] : List Ls), v27, ())))
   (req (room (lenL v27) (lenL ([p1] : List Ls))) <|
   req (i64ok (v3 + 1)) <|
   rec (((()), (v0, ()), (v1, ()), (()), (()), (()), (()), (()), (v2, ()), (v3 + 1, ()), ()), (v4, v5, v6, (v7, ()), (v8, ()), (v9, ()), v10, v11, v12, (v13, ()), v14, v15, v16, (v17, ()), (v18, ()), (v19, ()), (v20, ()), (v21, v22, v23, v24, v25, ()), v26, v27 ++ ([p1] : List Ls), ()))))
  (some (((()), (v0, ()), (v1, ()), (()), (()), (()), (()), ()), (v4, v5, v6, (v7, ()), (v8, ()), (v9, ()), v10, v11, v12, (v13, ()), v14, v15, v16, (v17, ()), (v18, ()), (v19, ()), (v20, ()), (v21, v22, v23, v24, v25, ()), v26, v27, ())))
noncomputable def state_Raw_t (a0 : List Pf × List (List Ad)) (a1 : List Ls) (a2 : Int) (a3 : Oq) : Option (((List Pf × List (List Ad)) × (List Ls) × Int × Unit) × Ad × Int × Unit) :=
 (state_Form_t a3).bind fun y1 =>
 br (!decide (y1.1 = 0))
  (some (((([] : List Pf), ([] : List (List Ad))), ([] : List Ls), 0, ()), (⟨false, 0, 0⟩ : Ad), y1.1, ()))
  ((state_Own_t a0 a1 a2).bind fun y2 =>
  br (decide (a3.kind = 1))
   ((loopN zq58 FUEL (((()), (()), (lenL y2.1.1.1, ()), (0, ()), ()), (a0.2, a0.1, a1, (a2, ()), (a3, ()), (0, ()), ([] : List (List Ad)), ([] : List Pf), ([] : List Ls), ((⟨false, 0, 0⟩ : Ad), ()), y2.1.1.2, y2.1.1.1, y2.1.2.1, (y2.1.2.2.1, ()), (a3, ()), ((⟨false, 0, 0⟩ : Ad), ()), (a3.pf, ()), ()))).bind fun y3 =>
   sumC y3 (fun y4 =>
    br (decide (y4.1.1.1 ≥ 0))
     (some (((([] : List Pf), ([] : List (List Ad))), ([] : List Ls), 0, ()), (⟨false, 0, 0⟩ : Ad), 6, ()))
     (br (decide (lenL y4.2.2.2.2.2.2.2.2.2.2.2.2.1 = 3))
      (some (((([] : List Pf), ([] : List (List Ad))), ([] : List Ls), 0, ()), (⟨false, 0, 0⟩ : Ad), 2, ()))
      (((loopN zq49 FUEL (((()), (()), (()), (lenL y4.2.2.2.2.2.2.2.2.2.2.2.2.1, ()), (0, ()), (lenL y4.2.2.2.2.2.2.2.2.2.2.2.2.1, ()), ()), (y4.2.1, y4.2.2.1, y4.2.2.2.1, (y4.2.2.2.2.1.1, ()), (y4.2.2.2.2.2.1.1, ()), (y4.2.2.2.2.2.2.1.1, ()), y4.2.2.2.2.2.2.2.1, y4.2.2.2.2.2.2.2.2.1, y4.2.2.2.2.2.2.2.2.2.1, (y4.2.2.2.2.2.2.2.2.2.2.1.1, ()), y4.2.2.2.2.2.2.2.2.2.2.2.1, y4.2.2.2.2.2.2.2.2.2.2.2.2.1, y4.2.2.2.2.2.2.2.2.2.2.2.2.2.1, (y4.2.2.2.2.2.2.2.2.2.2.2.2.2.2.1.1, ()), (y4.2.2.2.2.2.2.2.2.2.2.2.2.2.2.2.1.1, ()), (y4.2.2.2.2.2.2.2.2.2.2.2.2.2.2.2.2.1.1, ()), (y4.2.2.2.2.2.2.2.2.2.2.2.2.2.2.2.2.2.1.1, ()), (y4.2.2.2.2.2.2.2.2.2.2.2.2.2.2.2.2.2.1.1, ()), ()))).bind fun y5 =>
       br (decide (y5.1.2.2.2.2.1.1 < y5.1.2.2.2.1.1))
        (req (inRange y5.1.2.2.2.2.1.1 (lenL y5.2.2.2.2.2.2.2.2.2.2.2.2.1)) <|
        (geti y5.2.2.2.2.2.2.2.2.2.2.2.2.1 y5.1.2.2.2.2.1.1).bind fun p6 =>
        (m_state_doer__pool_2_t p6 (getL y5.2.2.2.2.2.2.2.2.2.2.2.1 y5.1.2.2.2.2.1.1) y5.2.2.2.2.2.2.2.2.2.2.2.2.2.2.2.2.2.2.1.1).bind fun y7 =>
        some (y5.1.2.2.2.2.1.1, decide (y7.1 = 0), ()))
        (some (y5.1.2.2.2.2.1.1, false, ()))).bind fun y6 =>
      both
       (both
        (both
         (dup 1 <|
         req (decide (0 ≤ y6.1) && decide (y6.1 ≤ lenL y4.2.2.2.2.2.2.2.2.2.2.2.2.1) && room (lenL y4.2.2.2.2.2.2.2.2.2.2.2.2.1) 1) <|
         some (((insL y4.2.2.2.2.2.2.2.2.2.2.2.2.1 y6.1 y4.2.2.2.2.2.2.2.2.2.2.2.2.2.2.2.2.2.1.1, insL (padL y4.2.2.2.2.2.2.2.2.2.2.2.2.1.length y4.2.2.2.2.2.2.2.2.2.2.2.1) y6.1 ([] : List Ad)), y4.2.2.2.2.2.2.2.2.2.2.2.2.2.1, y4.2.2.2.2.2.2.2.2.2.2.2.2.2.2.1.1, ()), (⟨false, 0, 0⟩ : Ad), 0, ()))
         (req (decide (0 ≤ y6.1) && decide (y6.1 ≤ lenL y4.2.2.2.2.2.2.2.2.2.2.2.2.1) && room (lenL y4.2.2.2.2.2.2.2.2.2.2.2.2.1) 1) <|
         some (((insL y4.2.2.2.2.2.2.2.2.2.2.2.2.1 y6.1 y4.2.2.2.2.2.2.2.2.2.2.2.2.2.2.2.2.2.1.1, insL (padL y4.2.2.2.2.2.2.2.2.2.2.2.2.1.length y4.2.2.2.2.2.2.2.2.2.2.2.1) y6.1 ([] : List Ad)), y4.2.2.2.2.2.2.2.2.2.2.2.2.2.1, y4.2.2.2.2.2.2.2.2.2.2.2.2.2.2.1.1, ()), (⟨false, 0, 0⟩ : Ad), 0, ())))
        (req (decide (0 ≤ y6.1) && decide (y6.1 ≤ lenL y4.2.2.2.2.2.2.2.2.2.2.2.2.1) && room (lenL y4.2.2.2.2.2.2.2.2.2.2.2.2.1) 1) <|
        some (((insL y4.2.2.2.2.2.2.2.2.2.2.2.2.1 y6.1 y4.2.2.2.2.2.2.2.2.2.2.2.2.2.2.2.2.2.1.1, insL (padL y4.2.2.2.2.2.2.2.2.2.2.2.2.1.length y4.2.2.2.2.2.2.2.2.2.2.2.1) y6.1 ([] : List Ad)), y4.2.2.2.2.2.2.2.2.2.2.2.2.2.1, y4.2.2.2.2.2.2.2.2.2.2.2.2.2.2.1.1, ()), (⟨false, 0, 0⟩ : Ad), 0, ())))
       (req (decide (0 ≤ y6.1) && decide (y6.1 ≤ lenL y4.2.2.2.2.2.2.2.2.2.2.2.2.1) && room (lenL y4.2.2.2.2.2.2.2.2.2.2.2.2.1) 1) <|
       some (((insL y4.2.2.2.2.2.2.2.2.2.2.2.2.1 y6.1 y4.2.2.2.2.2.2.2.2.2.2.2.2.2.2.2.2.2.1.1, insL (padL y4.2.2.2.2.2.2.2.2.2.2.2.2.1.length y4.2.2.2.2.2.2.2.2.2.2.2.1) y6.1 ([] : List Ad)), y4.2.2.2.2.2.2.2.2.2.2.2.2.2.1, y4.2.2.2.2.2.2.2.2.2.2.2.2.2.2.1.1, ()), (⟨false, 0, 0⟩ : Ad), 0, ()))))) (fun y7 =>
    br (decide (lenL y7.2.2.2.2.2.2.2.2.2.2.2.2.1 = 3))
     (some (((([] : List Pf), ([] : List (List Ad))), ([] : List Ls), 0, ()), (⟨false, 0, 0⟩ : Ad), 2, ()))
     (((loopN zq48 FUEL (((()), (()), (()), (lenL y7.2.2.2.2.2.2.2.2.2.2.2.2.1, ()), (0, ()), (lenL y7.2.2.2.2.2.2.2.2.2.2.2.2.1, ()), ()), (y7.2.1, y7.2.2.1, y7.2.2.2.1, (y7.2.2.2.2.1.1, ()), (y7.2.2.2.2.2.1.1, ()), (y7.2.2.2.2.2.2.1.1, ()), y7.2.2.2.2.2.2.2.1, y7.2.2.2.2.2.2.2.2.1, y7.2.2.2.2.2.2.2.2.2.1, (y7.2.2.2.2.2.2.2.2.2.2.1.1, ()), y7.2.2.2.2.2.2.2.2.2.2.2.1, y7.2.2.2.2.2.2.2.2.2.2.2.2.1, y7.2.2.2.2.2.2.2.2.2.2.2.2.2.1, (y7.2.2.2.2.2.2.2.2.2.2.2.2.2.2.1.1, ()), (y7.2.2.2.2.2.2.2.2.2.2.2.2.2.2.2.1.1, ()), (y7.2.2.2.2.2.2.2.2.2.2.2.2.2.2.2.2.1.1, ()), (y7.2.2.2.2.2.2.2.2.2.2.2.2.2.2.2.2.2.1.1, ()), (y7.2.2.2.2.2.2.2.2.2.2.2.2.2.2.2.2.2.1.1, ()), ()))).bind fun y8 =>
      br (decide (y8.1.2.2.2.2.1.1 < y8.1.2.2.2.1.1))
       (req (inRange y8.1.2.2.2.2.1.1 (lenL y8.2.2.2.2.2.2.2.2.2.2.2.2.1)) <|
       (geti y8.2.2.2.2.2.2.2.2.2.2.2.2.1 y8.1.2.2.2.2.1.1).bind fun p9 =>
       (m_state_doer__pool_2_t p9 (getL y8.2.2.2.2.2.2.2.2.2.2.2.1 y8.1.2.2.2.2.1.1) y8.2.2.2.2.2.2.2.2.2.2.2.2.2.2.2.2.2.2.1.1).bind fun y10 =>
       some (y8.1.2.2.2.2.1.1, decide (y10.1 = 0), ()))
       (some (y8.1.2.2.2.2.1.1, false, ()))).bind fun y9 =>
     both
      (both
       (both
        (dup 1 <|
        req (decide (0 ≤ y9.1) && decide (y9.1 ≤ lenL y7.2.2.2.2.2.2.2.2.2.2.2.2.1) && room (lenL y7.2.2.2.2.2.2.2.2.2.2.2.2.1) 1) <|
        some (((insL y7.2.2.2.2.2.2.2.2.2.2.2.2.1 y9.1 y7.2.2.2.2.2.2.2.2.2.2.2.2.2.2.2.2.2.1.1, insL (padL y7.2.2.2.2.2.2.2.2.2.2.2.2.1.length y7.2.2.2.2.2.2.2.2.2.2.2.1) y9.1 ([] : List Ad)), y7.2.2.2.2.2.2.2.2.2.2.2.2.2.1, y7.2.2.2.2.2.2.2.2.2.2.2.2.2.2.1.1, ()), (⟨false, 0, 0⟩ : Ad), 0, ()))
        (req (decide (0 ≤ y9.1) && decide (y9.1 ≤ lenL y7.2.2.2.2.2.2.2.2.2.2.2.2.1) && room (lenL y7.2.2.2.2.2.2.2.2.2.2.2.2.1) 1) <|
        some (((insL y7.2.2.2.2.2.2.2.2.2.2.2.2.1 y9.1 y7.2.2.2.2.2.2.2.2.2.2.2.2.2.2.2.2.2.1.1, insL (padL y7.2.2.2.2.2.2.2.2.2.2.2.2.1.length y7.2.2.2.2.2.2.2.2.2.2.2.1) y9.1 ([] : List Ad)), y7.2.2.2.2.2.2.2.2.2.2.2.2.2.1, y7.2.2.2.2.2.2.2.2.2.2.2.2.2.2.1.1, ()), (⟨false, 0, 0⟩ : Ad), 0, ())))
       (req (decide (0 ≤ y9.1) && decide (y9.1 ≤ lenL y7.2.2.2.2.2.2.2.2.2.2.2.2.1) && room (lenL y7.2.2.2.2.2.2.2.2.2.2.2.2.1) 1) <|
       some (((insL y7.2.2.2.2.2.2.2.2.2.2.2.2.1 y9.1 y7.2.2.2.2.2.2.2.2.2.2.2.2.2.2.2.2.2.1.1, insL (padL y7.2.2.2.2.2.2.2.2.2.2.2.2.1.length y7.2.2.2.2.2.2.2.2.2.2.2.1) y9.1 ([] : List Ad)), y7.2.2.2.2.2.2.2.2.2.2.2.2.2.1, y7.2.2.2.2.2.2.2.2.2.2.2.2.2.2.1.1, ()), (⟨false, 0, 0⟩ : Ad), 0, ())))
      (req (decide (0 ≤ y9.1) && decide (y9.1 ≤ lenL y7.2.2.2.2.2.2.2.2.2.2.2.2.1) && room (lenL y7.2.2.2.2.2.2.2.2.2.2.2.2.1) 1) <|
      some (((insL y7.2.2.2.2.2.2.2.2.2.2.2.2.1 y9.1 y7.2.2.2.2.2.2.2.2.2.2.2.2.2.2.2.2.2.1.1, insL (padL y7.2.2.2.2.2.2.2.2.2.2.2.2.1.length y7.2.2.2.2.2.2.2.2.2.2.2.1) y9.1 ([] : List Ad)), y7.2.2.2.2.2.2.2.2.2.2.2.2.2.1, y7.2.2.2.2.2.2.2.2.2.2.2.2.2.2.1.1, ()), (⟨false, 0, 0⟩ : Ad), 0, ())))))
   (br (decide (a3.kind = 2))
    ((state_poolOf_t y2.1.1 y2.1.2.1 y2.1.2.2.1 a3.ad).bind fun y3 =>
    br (decide (y3.1 < 0))
     (some (((([] : List Pf), ([] : List (List Ad))), ([] : List Ls), 0, ()), (⟨false, 0, 0⟩ : Ad), 5, ()))
     (req (inRange y3.1 (lenL y2.1.1.1)) <|
     req (inRange y3.1 (lenL y2.1.1.1)) <|
     req (inRange y3.1 (lenL y2.1.1.1)) <|
     (geti y2.1.1.1 y3.1).bind fun p4 =>
     ((loopN zq41 FUEL (((y3.1, ()), (()), (()), (lenL (getL y2.1.1.2 y3.1), ()), (0, ()), (lenL (getL y2.1.1.2 y3.1), ()), ()), (a0.2, a0.1, a1, (a2, ()), (a3, ()), (0, ()), ([] : List (List Ad)), ([] : List Pf), ([] : List Ls), ((⟨false, 0, 0⟩ : Ad), ()), y2.1.1.2, y2.1.1.1, y2.1.2.1, (y2.1.2.2.1, ()), (a3, ()), ((⟨false, 0, 0⟩ : Ad), ()), (a3.ad, ()), (a3.ad, ()), ()))).bind fun y5 =>
      br (decide (y5.1.2.2.2.2.1.1 < y5.1.2.2.2.1.1))
       (req (inRange y5.1.2.2.2.2.1.1 (lenL (getL y5.2.2.2.2.2.2.2.2.2.2.2.1 y5.1.1.1))) <|
       (geti (getL y5.2.2.2.2.2.2.2.2.2.2.2.1 y5.1.1.1) y5.1.2.2.2.2.1.1).bind fun p6 =>
       (addr_Order_t p6 y5.2.2.2.2.2.2.2.2.2.2.2.2.2.2.2.2.2.2.1.1).bind fun y7 =>
       some (y5.1.2.2.2.2.1.1, decide (y7.1 = 0), ()))
       (some (y5.1.2.2.2.2.1.1, false, ()))).bind fun y6 =>
     br y6.2.1
      (some (((([] : List Pf), ([] : List (List Ad))), ([] : List Ls), 0, ()), (⟨false, 0, 0⟩ : Ad), 6, ()))
      (req (inRange y3.1 (lenL y2.1.1.1)) <|
      req (inRange y3.1 (lenL y2.1.1.1)) <|
      (geti y2.1.1.1 y3.1).bind fun p7 =>
      br (decide (lenL (getL y2.1.1.2 y3.1) = 6))
       (some (((([] : List Pf), ([] : List (List Ad))), ([] : List Ls), 0, ()), (⟨false, 0, 0⟩ : Ad), 2, ()))
       (req (inRange y3.1 (lenL y2.1.1.1)) <|
       req (inRange y3.1 (lenL y2.1.1.1)) <|
       (geti y2.1.1.1 y3.1).bind fun p8 =>
       req (decide (0 ≤ y3.1)) <|
       req (decide (0 ≤ y6.1) && decide (y6.1 ≤ lenL (getL y2.1.1.2 y3.1)) && room (lenL (getL y2.1.1.2 y3.1)) 1) <|
       req (inRange y3.1 (lenL y2.1.1.1)) <|
       req (inRange y3.1 (lenL y2.1.1.1)) <|
       req (decide (y3.1 = y3.1)) <|
       (geti y2.1.1.1 y3.1).bind fun p9 =>
       some (((seti y2.1.1.1 y3.1 p9, seti (padL y2.1.1.1.length (outL y2.1.1.2 y3.1)) y3.1 (insL (getL y2.1.1.2 y3.1) y6.1 a3.ad)), y2.1.2.1, y2.1.2.2.1, ()), (⟨false, 0, 0⟩ : Ad), 0, ())))))
    (br (decide (a3.kind = 3))
     (br (decide (a3.of_ ≥ lenL y2.1.1.1))
      (some (((([] : List Pf), ([] : List (List Ad))), ([] : List Ls), 0, ()), (⟨false, 0, 0⟩ : Ad), 5, ()))
      (req (inRange a3.of_ (lenL y2.1.1.1)) <|
      (geti y2.1.1.1 a3.of_).bind fun p3 =>
      (m_state_doer__find_t y2.1.1 y2.1.2.1 y2.1.2.2.1 a3.who).bind fun y4 =>
      (br (decide (y4.1 ≥ 0))
        (req (inRange y4.1 (lenL y2.1.2.1)) <|
        req (inRange y4.1 (lenL y2.1.2.1)) <|
        (geti y2.1.2.1 y4.1).bind fun p5 =>
        (prefix_Holds_t p3 p5.ad).bind fun y6 =>
        some (!y6.1))
        (some false)).bind fun c5 =>
      br c5
       (some (((([] : List Pf), ([] : List (List Ad))), ([] : List Ls), 0, ()), (⟨false, 0, 0⟩ : Ad), 6, ()))
       ((loopN zq37 FUEL (((()), (a3.who, ()), (a3.n, ()), (()), (()), (()), (()), (()), (lenL y2.1.2.1, ()), (0, ()), ()), (a0.2, a0.1, a1, (a2, ()), (a3, ()), (0, ()), ([] : List (List Ad)), ([] : List Pf), ([] : List Ls), ((⟨false, 0, 0⟩ : Ad), ()), y2.1.1.2, y2.1.1.1, y2.1.2.1, (y2.1.2.2.1, ()), (a3, ()), ((⟨false, 0, 0⟩ : Ad), ()), ((⟨false, 0, 0⟩ : Ad), ()), (p3.ad.v6, p3.ad.hi, p3.ad.lo, p3.bits, a3.of_, ()), ([] : List Ls), ([] : List Ls), ()))).bind fun y6 =>
       dup 1 <|
       (lease_Raw_t (⟨(⟨y6.2.2.2.2.2.2.2.2.2.2.2.2.2.2.2.2.2.2.1.1, y6.2.2.2.2.2.2.2.2.2.2.2.2.2.2.2.2.2.2.1.2.1, y6.2.2.2.2.2.2.2.2.2.2.2.2.2.2.2.2.2.2.1.2.2.1⟩ : Ad), y6.2.2.2.2.2.2.2.2.2.2.2.2.2.2.2.2.2.2.1.2.2.2.1⟩ : Pf) (getL y6.2.2.2.2.2.2.2.2.2.2.2.1 y6.2.2.2.2.2.2.2.2.2.2.2.2.2.2.2.2.2.2.1.2.2.2.2.1) y6.2.2.2.2.2.2.2.2.2.2.2.2.2.2.2.2.2.2.2.1 y6.1.2.1.1 y6.2.2.2.2.2.2.2.2.2.2.2.2.2.2.1.1 y6.1.2.2.1.1).bind fun y7 =>
       br (!y7.2.2.1)
        (some (((([] : List Pf), ([] : List (List Ad))), ([] : List Ls), 0, ()), (⟨false, 0, 0⟩ : Ad), 8, ()))
        (req (i64ok ((lenL y7.1) + (lenL y6.2.2.2.2.2.2.2.2.2.2.2.2.2.2.2.2.2.2.2.2.1))) <|
        br (decide ((lenL y7.1) + (lenL y6.2.2.2.2.2.2.2.2.2.2.2.2.2.2.2.2.2.2.2.2.1) > 20))
         (some (((([] : List Pf), ([] : List (List Ad))), ([] : List Ls), 0, ()), (⟨false, 0, 0⟩ : Ad), 2, ()))
         (req (room (lenL y7.1) (lenL y6.2.2.2.2.2.2.2.2.2.2.2.2.2.2.2.2.2.2.2.2.1)) <|
         req (sortOkL (y7.1 ++ y6.2.2.2.2.2.2.2.2.2.2.2.2.2.2.2.2.2.2.2.2.1)) <|
         some (((y6.2.2.2.2.2.2.2.2.2.2.2.2.1, y6.2.2.2.2.2.2.2.2.2.2.2.1), sortL (y7.1 ++ y6.2.2.2.2.2.2.2.2.2.2.2.2.2.2.2.2.2.2.2.2.1), y6.2.2.2.2.2.2.2.2.2.2.2.2.2.2.1.1, ()), y7.2.1, 0, ()))))))
     (br (decide (a3.kind = 4))
      ((m_state_doer__find_t y2.1.1 y2.1.2.1 y2.1.2.2.1 a3.who).bind fun y3 =>
      br (decide (y3.1 < 0))
       (some (((([] : List Pf), ([] : List (List Ad))), ([] : List Ls), 0, ()), (⟨false, 0, 0⟩ : Ad), 5, ()))
       (req (inRange y3.1 (lenL y2.1.2.1)) <|
       req (inRange y3.1 (lenL y2.1.2.1)) <|
       (geti y2.1.2.1 y3.1).bind fun p4 =>
       req (i64ok (y3.1 + 1)) <|
       req (decide (0 ≤ y3.1) && decide (y3.1 ≤ y3.1 + 1) && decide (y3.1 + 1 ≤ lenL y2.1.2.1)) <|
       some ((y2.1.1, delL y2.1.2.1 y3.1 (y3.1 + 1), y2.1.2.2.1, ()), p4.ad, 0, ())))
      (br (decide (a3.n < y2.1.2.2.1))
       (some (((([] : List Pf), ([] : List (List Ad))), ([] : List Ls), 0, ()), (⟨false, 0, 0⟩ : Ad), 4, ()))
       ((lease_Live_t y2.1.2.1 a3.n).bind fun y3 =>
       some ((y2.1.1, y3.1, a3.n, ()), (⟨false, 0, 0⟩ : Ad), 0, ())))))))
noncomputable def state_Do_t (a0 : List Pf × List (List Ad)) (a1 : List Ls) (a2 : Int) (a3 : Oq) : Option (((List Pf × List (List Ad)) × (List Ls) × Int × Unit) × Ad × Int × Unit) :=
 (state_Check_t a0 a1 a2).bind fun y1 =>
 br (!decide (y1.1 = 0))
  (some (((([] : List Pf), ([] : List (List Ad))), ([] : List Ls), 0, ()), (⟨false, 0, 0⟩ : Ad), y1.1, ()))
  ((state_Raw_t a0 a1 a2 a3).bind fun y2 =>
  some ((y2.1.1, y2.1.2.1, y2.1.2.2.1, ()), y2.2.1, y2.2.2.1, ()))
noncomputable def R_GrantOf_L13 (rec : (((ByteArray × Unit) × (Int × Unit) × (Int × Unit) × (Unit) × (Unit) × (Unit) × (Unit) × (Unit) × (Int × Unit) × (Bool × Unit) × (Int × Unit) × Unit) × (List Ad × List Ls × (Bool × Int × Int × Int × Unit) × (Ad × Unit) × List Ls × List Ls × (Ad × Unit) × Unit)) → Option (((ByteArray × Unit) × (Int × Unit) × (Int × Unit) × (Unit) × (Unit) × (Unit) × (Unit) × (Unit) × (Int × Unit) × (Bool × Unit) × Unit) × (List Ad × List Ls × (Bool × Int × Int × Int × Unit) × (Ad × Unit) × List Ls × List Ls × (Ad × Unit) × Unit))) (x : (((ByteArray × Unit) × (Int × Unit) × (Int × Unit) × (Unit) × (Unit) × (Unit) × (Unit) × (Unit) × (Int × Unit) × (Bool × Unit) × (Int × Unit) × Unit) × (List Ad × List Ls × (Bool × Int × Int × Int × Unit) × (Ad × Unit) × List Ls × List Ls × (Ad × Unit) × Unit))) : Option (((ByteArray × Unit) × (Int × Unit) × (Int × Unit) × (Unit) × (Unit) × (Unit) × (Unit) × (Unit) × (Int × Unit) × (Bool × Unit) × Unit) × (List Ad × List Ls × (Bool × Int × Int × Int × Unit) × (Ad × Unit) × List Ls × List Ls × (Ad × Unit) × Unit)) :=
 let v0 := x.1.1.1
 let v1 := x.1.2.1.1
 let v2 := x.1.2.2.1.1
 let v3 := x.1.2.2.2.2.2.2.2.2.1.1
 let v4 := x.1.2.2.2.2.2.2.2.2.2.1.1
 let v5 := x.1.2.2.2.2.2.2.2.2.2.2.1.1
 let v6 := x.2.1
 let v7 := x.2.2.1
 let v8 := x.2.2.2.1.1
 let v9 := x.2.2.2.1.2.1
 let v10 := x.2.2.2.1.2.2.1
 let v11 := x.2.2.2.1.2.2.2.1
 let v12 := x.2.2.2.2.1.1
 let v13 := x.2.2.2.2.2.1
 let v14 := x.2.2.2.2.2.2.1
 let v15 := x.2.2.2.2.2.2.2.1.1
 br (decide (v5 < lenL v13))
  ((br v4
    (some true)
    (req (inRange v5 (lenL v13)) <|
    req (inRange v5 (lenL v13)) <|
    (geti v13 v5).bind fun p1 =>
    some (eqAd p1.ad v15))).bind fun c1 =>
  req (i64ok (v5 + 1)) <|
  rec (((v0, ()), (v1, ()), (v2, ()), (()), (()), (()), (()), (()), (v3, ()), (c1, ()), (v5 + 1, ()), ()), (v6, v7, (v8, v9, v10, v11, ()), (v12, ()), v13, v14, (v15, ()), ())))
  (some (((v0, ()), (v1, ()), (v2, ()), (()), (()), (()), (()), (()), (v3, ()), (v4, ()), ()), (v6, v7, (v8, v9, v10, v11, ()), (v12, ()), v13, v14, (v15, ()), ())))
noncomputable def R_GrantOf_L20 (rec : (((Unit) × (Unit) × (Unit) × (Unit) × (Unit) × (Bool × Unit) × (Int × Unit) × Unit) × (List Ad × List Ls × (Ad × Unit) × List Ls × List Ls × (Ad × Unit) × (Ls × Unit) × Unit)) → Option (((Unit) × (Unit) × (Unit) × (Unit) × (Bool × Unit) × Unit) × (List Ad × List Ls × (Ad × Unit) × List Ls × (Ad × Unit) × (Ls × Unit) × Unit))) (x : (((Unit) × (Unit) × (Unit) × (Unit) × (Unit) × (Bool × Unit) × (Int × Unit) × Unit) × (List Ad × List Ls × (Ad × Unit) × List Ls × List Ls × (Ad × Unit) × (Ls × Unit) × Unit))) : Option (((Unit) × (Unit) × (Unit) × (Unit) × (Bool × Unit) × Unit) × (List Ad × List Ls × (Ad × Unit) × List Ls × (Ad × Unit) × (Ls × Unit) × Unit)) :=
 let v0 := x.1.2.2.2.2.2.1.1
 let v1 := x.1.2.2.2.2.2.2.1.1
 let v2 := x.2.1
 let v3 := x.2.2.1
 let v4 := x.2.2.2.1.1
 let v5 := x.2.2.2.2.1
 let v6 := x.2.2.2.2.2.1
 let v7 := x.2.2.2.2.2.2.1.1
 let v8 := x.2.2.2.2.2.2.2.1.1
 br (decide (v1 < lenL v5))
  ((br (!v0)
    (req (inRange v1 (lenL v5)) <|
    req (inRange v1 (lenL v5)) <|
    (geti v5 v1).bind fun p1 =>
    (R_IsAhead_t v7 p1.ad).bind fun y2 =>
    some y2.1)
    (some false)).bind fun c1 =>
  br c1
   (req (room (lenL v6) (lenL ([v8] : List Ls))) <|
   req (inRange v1 (lenL v5)) <|
   (geti v5 v1).bind fun p2 =>
   req (room (lenL (v6 ++ ([v8] : List Ls))) (lenL ([p2] : List Ls))) <|
   req (i64ok (v1 + 1)) <|
   rec (((()), (()), (()), (()), (()), (true, ()), (v1 + 1, ()), ()), (v2, v3, (v4, ()), v5, (v6 ++ ([v8] : List Ls)) ++ ([p2] : List Ls), (v7, ()), (v8, ()), ())))
   (req (inRange v1 (lenL v5)) <|
   (geti v5 v1).bind fun p2 =>
   req (room (lenL v6) (lenL ([p2] : List Ls))) <|
   req (i64ok (v1 + 1)) <|
   rec (((()), (()), (()), (()), (()), (v0, ()), (v1 + 1, ()), ()), (v2, v3, (v4, ()), v5, v6 ++ ([p2] : List Ls), (v7, ()), (v8, ()), ()))))
  (some (((()), (()), (()), (()), (v0, ()), ()), (v2, v3, (v4, ()), v6, (v7, ()), (v8, ()), ())))
noncomputable def R_GrantOf_L9 (rec : (((ByteArray × Unit) × (Int × Unit) × (Int × Unit) × (Unit) × (Unit) × (Unit) × (Unit) × (Unit) × (Int × Unit) × Unit) × (List Ad × List Ls × (Bool × Int × Int × Int × Unit) × (Ad × Unit) × List Ls × List Ls × (Ad × Unit) × Unit)) → Option ((((Unit) × (Unit) × (Bool × Unit) × Unit) × (List Ad × List Ls × List Ls × (Ad × Unit) × Unit)) ⊕ (((Unit) × Unit) × (List Ad × List Ls × (Ad × Unit) × Unit)))) (x : (((ByteArray × Unit) × (Int × Unit) × (Int × Unit) × (Unit) × (Unit) × (Unit) × (Unit) × (Unit) × (Int × Unit) × Unit) × (List Ad × List Ls × (Bool × Int × Int × Int × Unit) × (Ad × Unit) × List Ls × List Ls × (Ad × Unit) × Unit))) : Option ((((Unit) × (Unit) × (Bool × Unit) × Unit) × (List Ad × List Ls × List Ls × (Ad × Unit) × Unit)) ⊕ (((Unit) × Unit) × (List Ad × List Ls × (Ad × Unit) × Unit))) :=
 let v0 := x.1.1.1
 let v1 := x.1.2.1.1
 let v2 := x.1.2.2.1.1
 let v3 := x.1.2.2.2.2.2.2.2.2.1.1
 let v4 := x.2.1
 let v5 := x.2.2.1
 let v6 := x.2.2.2.1.1
 let v7 := x.2.2.2.1.2.1
 let v8 := x.2.2.2.1.2.2.1
 let v9 := x.2.2.2.1.2.2.2.1
 let v10 := x.2.2.2.2.1.1
 let v11 := x.2.2.2.2.2.1
 let v12 := x.2.2.2.2.2.2.1
 let v13 := x.2.2.2.2.2.2.2.1.1
 br (decide (v3 < 16))
  ((loopN R_GrantOf_L13 FUEL (((v0, ()), (v1, ()), (v2, ()), (()), (()), (()), (()), (()), (v3, ()), (false, ()), (0, ()), ()), (v4, v5, (v6, v7, v8, v9, ()), (v10, ()), v11, v12, (v13, ()), ()))).bind fun y1 =>
  (R_HasAddr_t (⟨(⟨y1.2.2.2.1.1, y1.2.2.2.1.2.1, y1.2.2.2.1.2.2.1⟩ : Ad), y1.2.2.2.1.2.2.2.1⟩ : Pf) y1.2.2.2.2.2.2.2.1.1).bind fun y2 =>
  (br y2.1
    (some (!y1.1.2.2.2.2.2.2.2.2.2.1.1))
    (some false)).bind fun c3 =>
  (br c3
    ((R_hasAddr_t y1.2.1 y1.2.2.2.2.2.2.2.1.1).bind fun y4 =>
    some (!y4.1))
    (some false)).bind fun c4 =>
  br c4
   (req (i64ok (y1.1.2.1.1 + y1.1.2.2.1.1)) <|
   (loopN R_GrantOf_L20 FUEL (((()), (()), (()), (()), (()), (false, ()), (0, ()), ()), (y1.2.1, y1.2.2.1, (y1.2.2.2.2.1.1, ()), y1.2.2.2.2.2.1, y1.2.2.2.2.2.2.1, (y1.2.2.2.2.2.2.2.1.1, ()), ((⟨y1.2.2.2.2.2.2.2.1.1, y1.1.1.1, y1.1.2.1.1 + y1.1.2.2.1.1⟩ : Ls), ()), ()))).bind fun y5 =>
   br (!y5.1.2.2.2.2.1.1)
    (req (room (lenL y5.2.2.2.2.1) (lenL ([y5.2.2.2.2.2.2.1.1] : List Ls))) <|
    some (Sum.inl (((()), (()), (true, ()), ()), (y5.2.1, y5.2.2.1, y5.2.2.2.2.1 ++ ([y5.2.2.2.2.2.2.1.1] : List Ls), (y5.2.2.2.2.2.1.1, ()), ()))))
    (some (Sum.inl (((()), (()), (true, ()), ()), (y5.2.1, y5.2.2.1, y5.2.2.2.2.1, (y5.2.2.2.2.2.1.1, ()), ())))))
   ((R_NextOf_t y1.2.2.2.2.2.2.2.1.1).bind fun y5 =>
   br (!y5.2.1)
    (some (Sum.inr ((((()), ()), (y1.2.1, y1.2.2.1, (y1.2.2.2.2.1.1, ()), ())))))
    (req (i64ok (y1.1.2.2.2.2.2.2.2.2.1.1 + 1)) <|
    rec (((y1.1.1.1, ()), (y1.1.2.1.1, ()), (y1.1.2.2.1.1, ()), (()), (()), (()), (()), (()), (y1.1.2.2.2.2.2.2.2.2.1.1 + 1, ()), ()), (y1.2.1, y1.2.2.1, (y1.2.2.2.1.1, y1.2.2.2.1.2.1, y1.2.2.2.1.2.2.1, y1.2.2.2.1.2.2.2.1, ()), (y1.2.2.2.2.1.1, ()), y1.2.2.2.2.2.1, y1.2.2.2.2.2.2.1, (y5.1, ()), ())))))
  (some (Sum.inr ((((()), ()), (v4, v5, (v10, ()), ())))))
noncomputable def R_GrantOf_t (a0 : Pf) (a1 : List Ad) (a2 : List Ls) (a3 : ByteArray) (a4 : Int) (a5 : Int) : Option ((List Ls) × Ad × Bool × Unit) :=
 (R_LiveOf_t a2 a4).bind fun y1 =>
 (R_WhoAt_t y1.1 a3).bind fun y2 =>
 br (decide (y2.1 ≥ 0))
  (req (i64ok (a4 + a5)) <|
  req (inRange y2.1 (lenL y1.1)) <|
  req (inRange y2.1 (lenL y1.1)) <|
  (geti y1.1 y2.1).bind fun p3 =>
  req (inRange y2.1 (lenL (seti y1.1 y2.1 (⟨p3.ad, p3.who, a4 + a5⟩ : Ls)))) <|
  req (inRange y2.1 (lenL (seti y1.1 y2.1 (⟨p3.ad, p3.who, a4 + a5⟩ : Ls)))) <|
  (geti (seti y1.1 y2.1 (⟨p3.ad, p3.who, a4 + a5⟩ : Ls)) y2.1).bind fun p4 =>
  some (seti y1.1 y2.1 (⟨p3.ad, p3.who, a4 + a5⟩ : Ls), p4.ad, true, ()))
  ((loopN R_GrantOf_L9 FUEL (((a3, ()), (a4, ()), (a5, ()), (()), (()), (()), (()), (()), (0, ()), ()), (a1, a2, (a0.ad.v6, a0.ad.hi, a0.ad.lo, a0.bits, ()), ((⟨false, 0, 0⟩ : Ad), ()), y1.1, ([] : List Ls), (a0.ad, ()), ()))).bind fun y3 =>
  sumC y3 (fun y4 =>
   some (y4.2.2.2.1, y4.2.2.2.2.1.1, y4.1.2.2.1.1, ())) (fun y5 =>
   some (([] : List Ls), (⟨false, 0, 0⟩ : Ad), false, ())))
noncomputable def R_DoOf_L10 (rec : (((Unit) × (Unit) × (Unit) × (Unit) × (Unit) × (Bool × Unit) × (Int × Unit) × Unit) × (List (List Ad) × List Pf × List Ls × Unit × (Int × Unit) × (Oq × Unit) × (Int × Unit) × (Ad × Unit) × (Int × Unit) × List Pf × List Ls × List Pf × List (List Ad) × List (List Ad) × Unit)) → Option ((((Unit) × (Unit) × (Int × Unit) × Unit) × (List (List Ad) × List Pf × List Ls × Unit × (Int × Unit) × (Ad × Unit) × List Pf × List Ls × List (List Ad) × Unit)) ⊕ (((Unit) × (Unit) × (Unit) × (Unit) × (Bool × Unit) × Unit) × (List (List Ad) × List Pf × List Ls × Unit × (Oq × Unit) × (Int × Unit) × (Ad × Unit) × (Int × Unit) × List Pf × List Ls × List Pf × List (List Ad) × List (List Ad) × Unit)))) (x : (((Unit) × (Unit) × (Unit) × (Unit) × (Unit) × (Bool × Unit) × (Int × Unit) × Unit) × (List (List Ad) × List Pf × List Ls × Unit × (Int × Unit) × (Oq × Unit) × (Int × Unit) × (Ad × Unit) × (Int × Unit) × List Pf × List Ls × List Pf × List (List Ad) × List (List Ad) × Unit))) : Option ((((Unit) × (Unit) × (Int × Unit) × Unit) × (List (List Ad) × List Pf × List Ls × Unit × (Int × Unit) × (Ad × Unit) × List Pf × List Ls × List (List Ad) × Unit)) ⊕ (((Unit) × (Unit) × (Unit) × (Unit) × (Bool × Unit) × Unit) × (List (List Ad) × List Pf × List Ls × Unit × (Oq × Unit) × (Int × Unit) × (Ad × Unit) × (Int × Unit) × List Pf × List Ls × List Pf × List (List Ad) × List (List Ad) × Unit))) :=
 let v0 := x.1.2.2.2.2.2.1.1
 let v1 := x.1.2.2.2.2.2.2.1.1
 let v2 := x.2.1
 let v3 := x.2.2.1
 let v4 := x.2.2.2.1
 let v5 := x.2.2.2.2.2.1.1
 let v6 := x.2.2.2.2.2.2.1.1
 let v7 := x.2.2.2.2.2.2.2.1.1
 let v8 := x.2.2.2.2.2.2.2.2.1.1
 let v9 := x.2.2.2.2.2.2.2.2.2.1.1
 let v10 := x.2.2.2.2.2.2.2.2.2.2.1
 let v11 := x.2.2.2.2.2.2.2.2.2.2.2.1
 let v12 := x.2.2.2.2.2.2.2.2.2.2.2.2.1
 let v13 := x.2.2.2.2.2.2.2.2.2.2.2.2.2.1
 let v14 := x.2.2.2.2.2.2.2.2.2.2.2.2.2.2.1
 br (decide (v1 < lenL v3))
  (req (inRange v1 (lenL v3)) <|
  req (inRange v1 (lenL v3)) <|
  (geti v3 v1).bind fun p1 =>
  (R_DoMeet_t p1 v6.pf).bind fun y2 =>
  br y2.1
   (some (Sum.inl (((()), (()), (6, ()), ()), (v2, v3, v4, (), (0, ()), ((⟨false, 0, 0⟩ : Ad), ()), ([] : List Pf), ([] : List Ls), ([] : List (List Ad)), ()))))
   ((br (!v0)
     (req (inRange v1 (lenL v3)) <|
     req (inRange v1 (lenL v3)) <|
     (geti v3 v1).bind fun p3 =>
     (R_PrefixAhead_t v6.pf p3).bind fun y4 =>
     some y4.1)
     (some false)).bind fun c3 =>
   br c3
    (req (room (lenL v12) (lenL ([v6.pf] : List Pf))) <|
    req (inRange v1 (lenL v3)) <|
    (geti v3 v1).bind fun p4 =>
    both
     (dup 1 <|
     req (room (lenL (v12 ++ ([v6.pf] : List Pf))) (lenL ([p4] : List Pf))) <|
     req (i64ok (v1 + 1)) <|
     rec (((()), (()), (()), (()), (()), (true, ()), (v1 + 1, ()), ()), (v2, v3, v4, (), (v5, ()), (v6, ()), (v7, ()), (v8, ()), (v9, ()), v10, v11, (v12 ++ ([v6.pf] : List Pf)) ++ ([p4] : List Pf), v13, padL (v12 ++ ([v6.pf] : List Pf)).length (padL v12.length v14 ++ ([([] : List Ad)] : List (List Ad))) ++ ([getL v2 v1] : List (List Ad)), ())))
     (req (room (lenL (v12 ++ ([v6.pf] : List Pf))) (lenL ([p4] : List Pf))) <|
     req (i64ok (v1 + 1)) <|
     rec (((()), (()), (()), (()), (()), (true, ()), (v1 + 1, ()), ()), (v2, v3, v4, (), (v5, ()), (v6, ()), (v7, ()), (v8, ()), (v9, ()), v10, v11, (v12 ++ ([v6.pf] : List Pf)) ++ ([p4] : List Pf), v13, padL (v12 ++ ([v6.pf] : List Pf)).length (padL v12.length v14 ++ ([([] : List Ad)] : List (List Ad))) ++ ([getL v2 v1] : List (List Ad)), ()))))
    (req (inRange v1 (lenL v3)) <|
    (geti v3 v1).bind fun p4 =>
    both
     (dup 1 <|
     req (room (lenL v12) (lenL ([p4] : List Pf))) <|
     req (i64ok (v1 + 1)) <|
     rec (((()), (()), (()), (()), (()), (v0, ()), (v1 + 1, ()), ()), (v2, v3, v4, (), (v5, ()), (v6, ()), (v7, ()), (v8, ()), (v9, ()), v10, v11, v12 ++ ([p4] : List Pf), v13, padL v12.length v14 ++ ([getL v2 v1] : List (List Ad)), ())))
     (req (room (lenL v12) (lenL ([p4] : List Pf))) <|
     req (i64ok (v1 + 1)) <|
     rec (((()), (()), (()), (()), (()), (v0, ()), (v1 + 1, ()), ()), (v2, v3, v4, (), (v5, ()), (v6, ()), (v7, ()), (v8, ()), (v9, ()), v10, v11, v12 ++ ([p4] : List Pf), v13, padL v12.length v14 ++ ([getL v2 v1] : List (List Ad)), ()))))))
  (some (Sum.inr ((((()), (()), (()), (()), (v0, ()), ()), (v2, v3, v4, (), (v6, ()), (v7, ()), (v8, ()), (v9, ()), v10, v11, v12, v13, v14, ())))))
noncomputable def R_DoOf_L33 (rec : (((Unit) × (Unit) × (Unit) × (Unit) × (Int × Unit) × (Unit) × (Int × Unit) × Unit) × (List (List Ad) × List Pf × List Ls × Unit × (Int × Unit) × (Int × Unit) × (Ad × Unit) × (Int × Unit) × List Ad × List Pf × List Ls × List (List Ad) × Unit)) → Option (((Unit) × (Unit) × (Unit) × (Unit) × (Int × Unit) × (Unit) × Unit) × (List (List Ad) × List Pf × List Ls × Unit × (Int × Unit) × (Int × Unit) × (Ad × Unit) × (Int × Unit) × List Ad × List Pf × List Ls × List (List Ad) × Unit))) (x : (((Unit) × (Unit) × (Unit) × (Unit) × (Int × Unit) × (Unit) × (Int × Unit) × Unit) × (List (List Ad) × List Pf × List Ls × Unit × (Int × Unit) × (Int × Unit) × (Ad × Unit) × (Int × Unit) × List Ad × List Pf × List Ls × List (List Ad) × Unit))) : Option (((Unit) × (Unit) × (Unit) × (Unit) × (Int × Unit) × (Unit) × Unit) × (List (List Ad) × List Pf × List Ls × Unit × (Int × Unit) × (Int × Unit) × (Ad × Unit) × (Int × Unit) × List Ad × List Pf × List Ls × List (List Ad) × Unit)) :=
 let v0 := x.1.2.2.2.2.1.1
 let v1 := x.1.2.2.2.2.2.2.1.1
 let v2 := x.2.1
 let v3 := x.2.2.1
 let v4 := x.2.2.2.1
 let v5 := x.2.2.2.2.2.1.1
 let v6 := x.2.2.2.2.2.2.1.1
 let v7 := x.2.2.2.2.2.2.2.1.1
 let v8 := x.2.2.2.2.2.2.2.2.1.1
 let v9 := x.2.2.2.2.2.2.2.2.2.1
 let v10 := x.2.2.2.2.2.2.2.2.2.2.1
 let v11 := x.2.2.2.2.2.2.2.2.2.2.2.1
 let v12 := x.2.2.2.2.2.2.2.2.2.2.2.2.1
 (br (decide (v1 > 0))
   (req (inRange v1 (lenL v9)) <|
   (geti v9 v1).bind fun p1 =>
   req (i64ok (v1 - 1)) <|
   req (inRange (v1 - 1) (lenL v9)) <|
   (geti v9 (v1 - 1)).bind fun p2 =>
   (R_IsAhead_t p1 p2).bind fun y3 =>
   some y3.1)
   (some false)).bind fun c1 =>
 br c1
  (req (i64ok (v1 - 1)) <|
  req (i64ok (v1 - 1)) <|
  req (inRange (v1 - 1) (lenL v9)) <|
  (geti v9 (v1 - 1)).bind fun p2 =>
  req (inRange v1 (lenL v9)) <|
  (geti v9 v1).bind fun p3 =>
  req (inRange v1 (lenL v9)) <|
  (geti v9 v1).bind fun p4 =>
  req (inRange (v1 - 1) (lenL (seti v9 v1 p2))) <|
  (geti (seti v9 v1 p2) (v1 - 1)).bind fun p5 =>
  req (i64ok (v1 - 1)) <|
  rec (((()), (()), (()), (()), (v0, ()), (()), (v1 - 1, ()), ()), (v2, v3, v4, (), (v5, ()), (v6, ()), (v7, ()), (v8, ()), seti (seti v9 v1 p2) (v1 - 1) p3, v10, v11, v12, ())))
  (some (((()), (()), (()), (()), (v0, ()), (()), ()), (v2, v3, v4, (), (v5, ()), (v6, ()), (v7, ()), (v8, ()), v9, v10, v11, v12, ())))
noncomputable def R_DoOf_L48 (rec : (((Unit) × (Unit) × (Unit) × (Unit) × (Unit) × (Unit) × (Unit) × (Int × Unit) × Unit) × (List (List Ad) × List Pf × List Ls × Unit × (Int × Unit) × (Oq × Unit) × (Int × Unit) × (Ad × Unit) × (Int × Unit) × (Bool × Int × Int × Int × Int × Unit) × List Ls × List Pf × List Ls × List (List Ad) × Unit)) → Option (((Unit) × (Unit) × (Unit) × (Unit) × (Unit) × (Unit) × (Unit) × Unit) × (List (List Ad) × List Pf × List Ls × Unit × (Int × Unit) × (Oq × Unit) × (Int × Unit) × (Ad × Unit) × (Int × Unit) × (Bool × Int × Int × Int × Int × Unit) × List Ls × List Pf × List Ls × List (List Ad) × Unit))) (x : (((Unit) × (Unit) × (Unit) × (Unit) × (Unit) × (Unit) × (Unit) × (Int × Unit) × Unit) × (List (List Ad) × List Pf × List Ls × Unit × (Int × Unit) × (Oq × Unit) × (Int × Unit) × (Ad × Unit) × (Int × Unit) × (Bool × Int × Int × Int × Int × Unit) × List Ls × List Pf × List Ls × List (List Ad) × Unit))) : Option (((Unit) × (Unit) × (Unit) × (Unit) × (Unit) × (Unit) × (Unit) × Unit) × (List (List Ad) × List Pf × List Ls × Unit × (Int × Unit) × (Oq × Unit) × (Int × Unit) × (Ad × Unit) × (Int × Unit) × (Bool × Int × Int × Int × Int × Unit) × List Ls × List Pf × List Ls × List (List Ad) × Unit)) :=
 let v0 := x.1.2.2.2.2.2.2.2.1.1
 let v1 := x.2.1
 let v2 := x.2.2.1
 let v3 := x.2.2.2.1
 let v4 := x.2.2.2.2.2.1.1
 let v5 := x.2.2.2.2.2.2.1.1
 let v6 := x.2.2.2.2.2.2.2.1.1
 let v7 := x.2.2.2.2.2.2.2.2.1.1
 let v8 := x.2.2.2.2.2.2.2.2.2.1.1
 let v9 := x.2.2.2.2.2.2.2.2.2.2.1.1
 let v10 := x.2.2.2.2.2.2.2.2.2.2.1.2.1
 let v11 := x.2.2.2.2.2.2.2.2.2.2.1.2.2.1
 let v12 := x.2.2.2.2.2.2.2.2.2.2.1.2.2.2.1
 let v13 := x.2.2.2.2.2.2.2.2.2.2.1.2.2.2.2.1
 let v14 := x.2.2.2.2.2.2.2.2.2.2.2.1
 let v15 := x.2.2.2.2.2.2.2.2.2.2.2.2.1
 let v16 := x.2.2.2.2.2.2.2.2.2.2.2.2.2.1
 let v17 := x.2.2.2.2.2.2.2.2.2.2.2.2.2.2.1
 br (decide (v0 < lenL v3))
  (req (inRange v0 (lenL v3)) <|
  req (inRange v0 (lenL v3)) <|
  (geti v3 v0).bind fun p1 =>
  (R_HasAddr_t (⟨(⟨v9, v10, v11⟩ : Ad), v12⟩ : Pf) p1.ad).bind fun y2 =>
  br y2.1
   (req (inRange v0 (lenL v3)) <|
   (geti v3 v0).bind fun p3 =>
   req (room (lenL v14) (lenL ([p3] : List Ls))) <|
   req (i64ok (v0 + 1)) <|
   rec (((()), (()), (()), (()), (()), (()), (()), (v0 + 1, ()), ()), (v1, v2, v3, (), (v4, ()), (v5, ()), (v6, ()), (v7, ()), (v8, ()), (v9, v10, v11, v12, v13, ()), v14 ++ ([p3] : List Ls), v15, v16, v17, ())))
   (req (i64ok (v0 + 1)) <|
   rec (((()), (()), (()), (()), (()), (()), (()), (v0 + 1, ()), ()), (v1, v2, v3, (), (v4, ()), (v5, ()), (v6, ()), (v7, ()), (v8, ()), (v9, v10, v11, v12, v13, ()), v14, v15, v16, v17, ()))))
  (some (((()), (()), (()), (()), (()), (()), (()), ()), (v1, v2, v3, (), (v4, ()), (v5, ()), (v6, ()), (v7, ()), (v8, ()), (v9, v10, v11, v12, v13, ()), v14, v15, v16, v17, ())))
noncomputable def R_DoOf_L57 (rec : (((Unit) × (Unit) × (Unit) × (Unit) × (Unit) × (Unit) × (Unit) × (Int × Unit) × Unit) × (List (List Ad) × List Pf × List Ls × Unit × (Int × Unit) × (Int × Unit) × (Ad × Unit) × (Int × Unit) × (Bool × Int × Int × Int × Int × Unit) × List Ls × (Ad × Unit) × List Pf × List Ls × List Ls × List (List Ad) × Unit)) → Option (((Unit) × (Unit) × (Unit) × (Unit) × (Unit) × Unit) × (List (List Ad) × List Pf × List Ls × Unit × (Int × Unit) × (Ad × Unit) × (Int × Unit) × List Ls × (Ad × Unit) × List Pf × List Ls × List Ls × List (List Ad) × Unit))) (x : (((Unit) × (Unit) × (Unit) × (Unit) × (Unit) × (Unit) × (Unit) × (Int × Unit) × Unit) × (List (List Ad) × List Pf × List Ls × Unit × (Int × Unit) × (Int × Unit) × (Ad × Unit) × (Int × Unit) × (Bool × Int × Int × Int × Int × Unit) × List Ls × (Ad × Unit) × List Pf × List Ls × List Ls × List (List Ad) × Unit))) : Option (((Unit) × (Unit) × (Unit) × (Unit) × (Unit) × Unit) × (List (List Ad) × List Pf × List Ls × Unit × (Int × Unit) × (Ad × Unit) × (Int × Unit) × List Ls × (Ad × Unit) × List Pf × List Ls × List Ls × List (List Ad) × Unit)) :=
 let v0 := x.1.2.2.2.2.2.2.2.1.1
 let v1 := x.2.1
 let v2 := x.2.2.1
 let v3 := x.2.2.2.1
 let v4 := x.2.2.2.2.2.1.1
 let v5 := x.2.2.2.2.2.2.1.1
 let v6 := x.2.2.2.2.2.2.2.1.1
 let v7 := x.2.2.2.2.2.2.2.2.1.1
 let v8 := x.2.2.2.2.2.2.2.2.2.1.1
 let v9 := x.2.2.2.2.2.2.2.2.2.1.2.1
 let v10 := x.2.2.2.2.2.2.2.2.2.1.2.2.1
 let v11 := x.2.2.2.2.2.2.2.2.2.1.2.2.2.1
 let v12 := x.2.2.2.2.2.2.2.2.2.1.2.2.2.2.1
 let v13 := x.2.2.2.2.2.2.2.2.2.2.1
 let v14 := x.2.2.2.2.2.2.2.2.2.2.2.1.1
 let v15 := x.2.2.2.2.2.2.2.2.2.2.2.2.1
 let v16 := x.2.2.2.2.2.2.2.2.2.2.2.2.2.1
 let v17 := x.2.2.2.2.2.2.2.2.2.2.2.2.2.2.1
 let v18 := x.2.2.2.2.2.2.2.2.2.2.2.2.2.2.2.1
 br (decide (v0 < lenL v3))
  (req (inRange v0 (lenL v3)) <|
  req (inRange v0 (lenL v3)) <|
  (geti v3 v0).bind fun p1 =>
  (R_HasAddr_t (⟨(⟨v8, v9, v10⟩ : Ad), v11⟩ : Pf) p1.ad).bind fun y2 =>
  br (!y2.1)
   (req (inRange v0 (lenL v3)) <|
   (geti v3 v0).bind fun p3 =>
   req (room (lenL v17) (lenL ([p3] : List Ls))) <|
   req (i64ok (v0 + 1)) <|
   rec (((()), (()), (()), (()), (()), (()), (()), (v0 + 1, ()), ()), (v1, v2, v3, (), (v4, ()), (v5, ()), (v6, ()), (v7, ()), (v8, v9, v10, v11, v12, ()), v13, (v14, ()), v15, v16, v17 ++ ([p3] : List Ls), v18, ())))
   (req (i64ok (v0 + 1)) <|
   rec (((()), (()), (()), (()), (()), (()), (()), (v0 + 1, ()), ()), (v1, v2, v3, (), (v4, ()), (v5, ()), (v6, ()), (v7, ()), (v8, v9, v10, v11, v12, ()), v13, (v14, ()), v15, v16, v17, v18, ()))))
  (some (((()), (()), (()), (()), (()), ()), (v1, v2, v3, (), (v5, ()), (v6, ()), (v7, ()), v13, (v14, ()), v15, v16, v17, v18, ())))
noncomputable def R_DoOf_L66 (rec : (((Unit) × (Unit) × (Unit) × (Unit) × (Unit) × (Int × Unit) × (Int × Unit) × Unit) × (List (List Ad) × List Pf × List Ls × Unit × (Int × Unit) × (Ad × Unit) × (Int × Unit) × List Ls × (Ad × Unit) × List Pf × List Ls × List Ls × List (List Ad) × Unit)) → Option (((Unit) × (Unit) × (Unit) × (Unit) × (Unit) × (Int × Unit) × Unit) × (List (List Ad) × List Pf × List Ls × Unit × (Int × Unit) × (Ad × Unit) × (Int × Unit) × List Ls × (Ad × Unit) × List Pf × List Ls × List Ls × List (List Ad) × Unit))) (x : (((Unit) × (Unit) × (Unit) × (Unit) × (Unit) × (Int × Unit) × (Int × Unit) × Unit) × (List (List Ad) × List Pf × List Ls × Unit × (Int × Unit) × (Ad × Unit) × (Int × Unit) × List Ls × (Ad × Unit) × List Pf × List Ls × List Ls × List (List Ad) × Unit))) : Option (((Unit) × (Unit) × (Unit) × (Unit) × (Unit) × (Int × Unit) × Unit) × (List (List Ad) × List Pf × List Ls × Unit × (Int × Unit) × (Ad × Unit) × (Int × Unit) × List Ls × (Ad × Unit) × List Pf × List Ls × List Ls × List (List Ad) × Unit)) :=
 let v0 := x.1.2.2.2.2.2.1.1
 let v1 := x.1.2.2.2.2.2.2.1.1
 let v2 := x.2.1
 let v3 := x.2.2.1
 let v4 := x.2.2.2.1
 let v5 := x.2.2.2.2.2.1.1
 let v6 := x.2.2.2.2.2.2.1.1
 let v7 := x.2.2.2.2.2.2.2.1.1
 let v8 := x.2.2.2.2.2.2.2.2.1
 let v9 := x.2.2.2.2.2.2.2.2.2.1.1
 let v10 := x.2.2.2.2.2.2.2.2.2.2.1
 let v11 := x.2.2.2.2.2.2.2.2.2.2.2.1
 let v12 := x.2.2.2.2.2.2.2.2.2.2.2.2.1
 let v13 := x.2.2.2.2.2.2.2.2.2.2.2.2.2.1
 (br (decide (v1 > 0))
   (req (inRange v1 (lenL v12)) <|
   req (inRange v1 (lenL v12)) <|
   (geti v12 v1).bind fun p1 =>
   req (i64ok (v1 - 1)) <|
   req (inRange (v1 - 1) (lenL v12)) <|
   req (inRange (v1 - 1) (lenL v12)) <|
   (geti v12 (v1 - 1)).bind fun p2 =>
   (R_IsAhead_t p1.ad p2.ad).bind fun y3 =>
   some y3.1)
   (some false)).bind fun c1 =>
 br c1
  (req (i64ok (v1 - 1)) <|
  req (i64ok (v1 - 1)) <|
  req (inRange (v1 - 1) (lenL v12)) <|
  (geti v12 (v1 - 1)).bind fun p2 =>
  req (inRange v1 (lenL v12)) <|
  (geti v12 v1).bind fun p3 =>
  req (inRange v1 (lenL v12)) <|
  both
   (dup 1 <|
   (geti v12 v1).bind fun p4 =>
   req (inRange (v1 - 1) (lenL (seti v12 v1 p2))) <|
   (geti (seti v12 v1 p2) (v1 - 1)).bind fun p5 =>
   req (i64ok (v1 - 1)) <|
   rec (((()), (()), (()), (()), (()), (v0, ()), (v1 - 1, ()), ()), (v2, v3, v4, (), (v5, ()), (v6, ()), (v7, ()), v8, (v9, ()), v10, v11, seti (seti v12 v1 p2) (v1 - 1) p3, v13, ())))
   ((geti v12 v1).bind fun p4 =>
   req (inRange (v1 - 1) (lenL (seti v12 v1 p2))) <|
   (geti (seti v12 v1 p2) (v1 - 1)).bind fun p5 =>
   req (i64ok (v1 - 1)) <|
   rec (((()), (()), (()), (()), (()), (v0, ()), (v1 - 1, ()), ()), (v2, v3, v4, (), (v5, ()), (v6, ()), (v7, ()), v8, (v9, ()), v10, v11, seti (seti v12 v1 p2) (v1 - 1) p3, v13, ()))))
  (some (((()), (()), (()), (()), (()), (v0, ()), ()), (v2, v3, v4, (), (v5, ()), (v6, ()), (v7, ()), v8, (v9, ()), v10, v11, v12, v13, ())))
noncomputable def R_DoOf_L62 (rec : (((Unit) × (Unit) × (Unit) × (Unit) × (Unit) × (Int × Unit) × Unit) × (List (List Ad) × List Pf × List Ls × Unit × (Int × Unit) × (Ad × Unit) × (Int × Unit) × List Ls × (Ad × Unit) × List Pf × List Ls × List Ls × List (List Ad) × Unit)) → Option (((Unit) × (Unit) × (Unit) × (Unit) × Unit) × (List (List Ad) × List Pf × List Ls × Unit × (Int × Unit) × (Ad × Unit) × (Int × Unit) × (Ad × Unit) × List Pf × List Ls × List Ls × List (List Ad) × Unit))) (x : (((Unit) × (Unit) × (Unit) × (Unit) × (Unit) × (Int × Unit) × Unit) × (List (List Ad) × List Pf × List Ls × Unit × (Int × Unit) × (Ad × Unit) × (Int × Unit) × List Ls × (Ad × Unit) × List Pf × List Ls × List Ls × List (List Ad) × Unit))) : Option (((Unit) × (Unit) × (Unit) × (Unit) × Unit) × (List (List Ad) × List Pf × List Ls × Unit × (Int × Unit) × (Ad × Unit) × (Int × Unit) × (Ad × Unit) × List Pf × List Ls × List Ls × List (List Ad) × Unit)) :=
 let v0 := x.1.2.2.2.2.2.1.1
 let v1 := x.2.1
 let v2 := x.2.2.1
 let v3 := x.2.2.2.1
 let v4 := x.2.2.2.2.2.1.1
 let v5 := x.2.2.2.2.2.2.1.1
 let v6 := x.2.2.2.2.2.2.2.1.1
 let v7 := x.2.2.2.2.2.2.2.2.1
 let v8 := x.2.2.2.2.2.2.2.2.2.1.1
 let v9 := x.2.2.2.2.2.2.2.2.2.2.1
 let v10 := x.2.2.2.2.2.2.2.2.2.2.2.1
 let v11 := x.2.2.2.2.2.2.2.2.2.2.2.2.1
 let v12 := x.2.2.2.2.2.2.2.2.2.2.2.2.2.1
 br (decide (v0 < lenL v7))
  (req (inRange v0 (lenL v7)) <|
  (geti v7 v0).bind fun p1 =>
  req (room (lenL v11) (lenL ([p1] : List Ls))) <|
  req (i64ok ((lenL (v11 ++ ([p1] : List Ls))) - 1)) <|
  (loopN R_DoOf_L66 FUEL (((()), (()), (()), (()), (()), (v0, ()), ((lenL (v11 ++ ([p1] : List Ls))) - 1, ()), ()), (v1, v2, v3, (), (v4, ()), (v5, ()), (v6, ()), v7, (v8, ()), v9, v10, v11 ++ ([p1] : List Ls), v12, ()))).bind fun y2 =>
  req (i64ok (y2.1.2.2.2.2.2.1.1 + 1)) <|
  rec (((()), (()), (()), (()), (()), (y2.1.2.2.2.2.2.1.1 + 1, ()), ()), (y2.2.1, y2.2.2.1, y2.2.2.2.1, (), (y2.2.2.2.2.2.1.1, ()), (y2.2.2.2.2.2.2.1.1, ()), (y2.2.2.2.2.2.2.2.1.1, ()), y2.2.2.2.2.2.2.2.2.1, (y2.2.2.2.2.2.2.2.2.2.1.1, ()), y2.2.2.2.2.2.2.2.2.2.2.1, y2.2.2.2.2.2.2.2.2.2.2.2.1, y2.2.2.2.2.2.2.2.2.2.2.2.2.1, y2.2.2.2.2.2.2.2.2.2.2.2.2.2.1, ())))
  (some (((()), (()), (()), (()), ()), (v1, v2, v3, (), (v4, ()), (v5, ()), (v6, ()), (v8, ()), v9, v10, v11, v12, ())))
noncomputable def R_DoOf_t (a0 : List Pf × List (List Ad)) (a1 : List Ls) (a2 : Int) (a3 : Oq) : Option (((List Pf × List (List Ad)) × (List Ls) × Int × Unit) × Ad × Int × Unit) :=
 (R_CheckOp_t a3).bind fun y1 =>
 br (!decide (y1.1 = 0))
  (some (((([] : List Pf), ([] : List (List Ad))), ([] : List Ls), 0, ()), (⟨false, 0, 0⟩ : Ad), y1.1, ()))
  (br (decide (a3.kind = 1))
   ((loopN R_DoOf_L10 FUEL (((()), (()), (()), (()), (()), (false, ()), (0, ()), ()), (a0.2, a0.1, a1, (), (a2, ()), (a3, ()), (0, ()), ((⟨false, 0, 0⟩ : Ad), ()), (a2, ()), ([] : List Pf), ([] : List Ls), ([] : List Pf), ([] : List (List Ad)), ([] : List (List Ad)), ()))).bind fun y2 =>
   sumC y2 (fun y3 =>
    some (((y3.2.2.2.2.2.2.2.1, y3.2.2.2.2.2.2.2.2.2.1), y3.2.2.2.2.2.2.2.2.1, y3.2.2.2.2.2.1.1, ()), y3.2.2.2.2.2.2.1.1, y3.1.2.2.1.1, ())) (fun y4 =>
    br (!y4.1.2.2.2.2.1.1)
     (req (room (lenL y4.2.2.2.2.2.2.2.2.2.2.2.1) (lenL ([y4.2.2.2.2.2.1.1.pf] : List Pf))) <|
     br (decide (lenL (y4.2.2.2.2.2.2.2.2.2.2.2.1 ++ ([y4.2.2.2.2.2.1.1.pf] : List Pf)) > 3))
      (some (((([] : List Pf), ([] : List (List Ad))), ([] : List Ls), 0, ()), (⟨false, 0, 0⟩ : Ad), 2, ()))
      (some (((y4.2.2.2.2.2.2.2.2.2.2.2.1 ++ ([y4.2.2.2.2.2.1.1.pf] : List Pf), padL y4.2.2.2.2.2.2.2.2.2.2.2.1.length y4.2.2.2.2.2.2.2.2.2.2.2.2.2.1 ++ ([([] : List Ad)] : List (List Ad))), y4.2.2.2.1, y4.2.2.2.2.2.2.2.2.1.1, ()), (⟨false, 0, 0⟩ : Ad), 0, ())))
     (br (decide (lenL y4.2.2.2.2.2.2.2.2.2.2.2.1 > 3))
      (some (((([] : List Pf), ([] : List (List Ad))), ([] : List Ls), 0, ()), (⟨false, 0, 0⟩ : Ad), 2, ()))
      (some (((y4.2.2.2.2.2.2.2.2.2.2.2.1, y4.2.2.2.2.2.2.2.2.2.2.2.2.2.1), y4.2.2.2.1, y4.2.2.2.2.2.2.2.2.1.1, ()), (⟨false, 0, 0⟩ : Ad), 0, ())))))
   (br (decide (a3.kind = 2))
    ((R_PoolAt_t a0 a1 a2 a3.ad).bind fun y2 =>
    br (decide (y2.1 < 0))
     (some (((([] : List Pf), ([] : List (List Ad))), ([] : List Ls), 0, ()), (⟨false, 0, 0⟩ : Ad), 5, ()))
     (req (inRange y2.1 (lenL a0.1)) <|
     req (inRange y2.1 (lenL a0.1)) <|
     (geti a0.1 y2.1).bind fun p3 =>
     (R_hasAddr_t (getL a0.2 y2.1) a3.ad).bind fun y4 =>
     br y4.1
      (some (((([] : List Pf), ([] : List (List Ad))), ([] : List Ls), 0, ()), (⟨false, 0, 0⟩ : Ad), 6, ()))
      (req (inRange y2.1 (lenL a0.1)) <|
      req (inRange y2.1 (lenL a0.1)) <|
      (geti a0.1 y2.1).bind fun p5 =>
      br (decide (lenL (getL a0.2 y2.1) = 6))
       (some (((([] : List Pf), ([] : List (List Ad))), ([] : List Ls), 0, ()), (⟨false, 0, 0⟩ : Ad), 2, ()))
       (req (inRange y2.1 (lenL a0.1)) <|
       req (inRange y2.1 (lenL a0.1)) <|
       (geti a0.1 y2.1).bind fun p6 =>
       both
        (dup 1 <|
        req (room (lenL ([] : List Ad)) (lenL (getL a0.2 y2.1))) <|
        req (room (lenL (([] : List Ad) ++ (getL a0.2 y2.1))) (lenL ([a3.ad] : List Ad))) <|
        req (i64ok ((lenL ((([] : List Ad) ++ (getL a0.2 y2.1)) ++ ([a3.ad] : List Ad))) - 1)) <|
        (loopN R_DoOf_L33 FUEL (((()), (()), (()), (()), (y2.1, ()), (()), ((lenL ((([] : List Ad) ++ (getL a0.2 y2.1)) ++ ([a3.ad] : List Ad))) - 1, ()), ()), (a0.2, a0.1, a1, (), (a2, ()), (0, ()), ((⟨false, 0, 0⟩ : Ad), ()), (a2, ()), (([] : List Ad) ++ (getL a0.2 y2.1)) ++ ([a3.ad] : List Ad), ([] : List Pf), ([] : List Ls), ([] : List (List Ad)), ()))).bind fun y7 =>
        req (room (lenL ([] : List Pf)) (lenL y7.2.2.1)) <|
        req (inRange y7.1.2.2.2.2.1.1 (lenL (([] : List Pf) ++ y7.2.2.1))) <|
        req (inRange y7.1.2.2.2.2.1.1 (lenL (([] : List Pf) ++ y7.2.2.1))) <|
        (geti (([] : List Pf) ++ y7.2.2.1) y7.1.2.2.2.2.1.1).bind fun p8 =>
        some (((seti (([] : List Pf) ++ y7.2.2.1) y7.1.2.2.2.2.1.1 p8, seti (padL (([] : List Pf) ++ y7.2.2.1).length (padL ([] : List Pf).length ([] : List (List Ad)) ++ y7.2.1)) y7.1.2.2.2.2.1.1 y7.2.2.2.2.2.2.2.2.2.1), y7.2.2.2.1, y7.2.2.2.2.2.2.2.2.1.1, ()), (⟨false, 0, 0⟩ : Ad), 0, ()))
        (req (room (lenL ([] : List Ad)) (lenL (getL a0.2 y2.1))) <|
        req (room (lenL (([] : List Ad) ++ (getL a0.2 y2.1))) (lenL ([a3.ad] : List Ad))) <|
        req (i64ok ((lenL ((([] : List Ad) ++ (getL a0.2 y2.1)) ++ ([a3.ad] : List Ad))) - 1)) <|
        (loopN R_DoOf_L33 FUEL (((()), (()), (()), (()), (y2.1, ()), (()), ((lenL ((([] : List Ad) ++ (getL a0.2 y2.1)) ++ ([a3.ad] : List Ad))) - 1, ()), ()), (a0.2, a0.1, a1, (), (a2, ()), (0, ()), ((⟨false, 0, 0⟩ : Ad), ()), (a2, ()), (([] : List Ad) ++ (getL a0.2 y2.1)) ++ ([a3.ad] : List Ad), ([] : List Pf), ([] : List Ls), ([] : List (List Ad)), ()))).bind fun y7 =>
        req (room (lenL ([] : List Pf)) (lenL y7.2.2.1)) <|
        req (inRange y7.1.2.2.2.2.1.1 (lenL (([] : List Pf) ++ y7.2.2.1))) <|
        req (inRange y7.1.2.2.2.2.1.1 (lenL (([] : List Pf) ++ y7.2.2.1))) <|
        (geti (([] : List Pf) ++ y7.2.2.1) y7.1.2.2.2.2.1.1).bind fun p8 =>
        some (((seti (([] : List Pf) ++ y7.2.2.1) y7.1.2.2.2.2.1.1 p8, seti (padL (([] : List Pf) ++ y7.2.2.1).length (padL ([] : List Pf).length ([] : List (List Ad)) ++ y7.2.1)) y7.1.2.2.2.2.1.1 y7.2.2.2.2.2.2.2.2.2.1), y7.2.2.2.1, y7.2.2.2.2.2.2.2.2.1.1, ()), (⟨false, 0, 0⟩ : Ad), 0, ()))))))
    (br (decide (a3.kind = 3))
     (br (decide (a3.of_ ≥ lenL a0.1))
      (some (((([] : List Pf), ([] : List (List Ad))), ([] : List Ls), 0, ()), (⟨false, 0, 0⟩ : Ad), 5, ()))
      (req (inRange a3.of_ (lenL a0.1)) <|
      (geti a0.1 a3.of_).bind fun p2 =>
      (R_WhoAt_t a1 a3.who).bind fun y3 =>
      (br (decide (y3.1 ≥ 0))
        (req (inRange y3.1 (lenL a1)) <|
        req (inRange y3.1 (lenL a1)) <|
        (geti a1 y3.1).bind fun p4 =>
        (R_HasAddr_t p2 p4.ad).bind fun y5 =>
        some (!y5.1))
        (some false)).bind fun c4 =>
      br c4
       (some (((([] : List Pf), ([] : List (List Ad))), ([] : List Ls), 0, ()), (⟨false, 0, 0⟩ : Ad), 6, ()))
       ((loopN R_DoOf_L48 FUEL (((()), (()), (()), (()), (()), (()), (()), (0, ()), ()), (a0.2, a0.1, a1, (), (a2, ()), (a3, ()), (0, ()), ((⟨false, 0, 0⟩ : Ad), ()), (a2, ()), (p2.ad.v6, p2.ad.hi, p2.ad.lo, p2.bits, a3.of_, ()), ([] : List Ls), ([] : List Pf), ([] : List Ls), ([] : List (List Ad)), ()))).bind fun y5 =>
       (R_GrantOf_t (⟨(⟨y5.2.2.2.2.2.2.2.2.2.2.1.1, y5.2.2.2.2.2.2.2.2.2.2.1.2.1, y5.2.2.2.2.2.2.2.2.2.2.1.2.2.1⟩ : Ad), y5.2.2.2.2.2.2.2.2.2.2.1.2.2.2.1⟩ : Pf) (getL y5.2.1 y5.2.2.2.2.2.2.2.2.2.2.1.2.2.2.2.1) y5.2.2.2.2.2.2.2.2.2.2.2.1 y5.2.2.2.2.2.2.1.1.who y5.2.2.2.2.2.1.1 y5.2.2.2.2.2.2.1.1.n).bind fun y6 =>
       br (!y6.2.2.1)
        (some (((([] : List Pf), ([] : List (List Ad))), ([] : List Ls), 0, ()), (⟨false, 0, 0⟩ : Ad), 8, ()))
        ((loopN R_DoOf_L57 FUEL (((()), (()), (()), (()), (()), (()), (()), (0, ()), ()), (y5.2.1, y5.2.2.1, y5.2.2.2.1, (), (y5.2.2.2.2.2.1.1, ()), (y5.2.2.2.2.2.2.2.1.1, ()), (y5.2.2.2.2.2.2.2.2.1.1, ()), (y5.2.2.2.2.2.2.2.2.2.1.1, ()), (y5.2.2.2.2.2.2.2.2.2.2.1.1, y5.2.2.2.2.2.2.2.2.2.2.1.2.1, y5.2.2.2.2.2.2.2.2.2.2.1.2.2.1, y5.2.2.2.2.2.2.2.2.2.2.1.2.2.2.1, y5.2.2.2.2.2.2.2.2.2.2.1.2.2.2.2.1, ()), y6.1, (y6.2.1, ()), y5.2.2.2.2.2.2.2.2.2.2.2.2.1, y5.2.2.2.2.2.2.2.2.2.2.2.2.2.1, ([] : List Ls), y5.2.2.2.2.2.2.2.2.2.2.2.2.2.2.1, ()))).bind fun y7 =>
        (loopN R_DoOf_L62 FUEL (((()), (()), (()), (()), (()), (0, ()), ()), (y7.2.1, y7.2.2.1, y7.2.2.2.1, (), (y7.2.2.2.2.2.1.1, ()), (y7.2.2.2.2.2.2.1.1, ()), (y7.2.2.2.2.2.2.2.1.1, ()), y7.2.2.2.2.2.2.2.2.1, (y7.2.2.2.2.2.2.2.2.2.1.1, ()), y7.2.2.2.2.2.2.2.2.2.2.1, y7.2.2.2.2.2.2.2.2.2.2.2.1, y7.2.2.2.2.2.2.2.2.2.2.2.2.1, y7.2.2.2.2.2.2.2.2.2.2.2.2.2.1, ()))).bind fun y8 =>
        br (decide (lenL y8.2.2.2.2.2.2.2.2.2.2.2.1 > 20))
         (some (((([] : List Pf), ([] : List (List Ad))), ([] : List Ls), 0, ()), (⟨false, 0, 0⟩ : Ad), 2, ()))
         (some (((y8.2.2.1, y8.2.1), y8.2.2.2.2.2.2.2.2.2.2.2.1, y8.2.2.2.2.2.2.2.1.1, ()), y8.2.2.2.2.2.2.2.2.1.1, 0, ()))))))
     (br (decide (a3.kind = 4))
      ((R_WhoAt_t a1 a3.who).bind fun y2 =>
      br (decide (y2.1 < 0))
       (some (((([] : List Pf), ([] : List (List Ad))), ([] : List Ls), 0, ()), (⟨false, 0, 0⟩ : Ad), 5, ()))
       (req (i64ok (y2.1 + 1)) <|
       both
        (both
         (req ((decide (0 ≤ y2.1)) && (decide (y2.1 ≤ lenL a1))) <|
         both
          (req (room (lenL ([] : List Ls)) (lenL (subL a1 0 y2.1))) <|
          req (((decide (0 ≤ y2.1 + 1)) && (decide (y2.1 + 1 ≤ lenL a1))) && (decide (lenL a1 ≤ lenL a1))) <|
          req (room (lenL (([] : List Ls) ++ (subL a1 0 y2.1))) (lenL (subL a1 (y2.1 + 1) (lenL a1)))) <|
          req (inRange y2.1 (lenL a1)) <|
          req (inRange y2.1 (lenL a1)) <|
          (geti a1 y2.1).bind fun p3 =>
          some ((a0, (([] : List Ls) ++ (subL a1 0 y2.1)) ++ (subL a1 (y2.1 + 1) (lenL a1)), a2, ()), p3.ad, 0, ()))
          (req (((decide (0 ≤ y2.1 + 1)) && (decide (y2.1 + 1 ≤ lenL a1))) && (decide (lenL a1 ≤ lenL a1))) <|
          req (room (lenL ([] : List Ls)) (lenL (subL a1 0 y2.1))) <|
          req (room (lenL (([] : List Ls) ++ (subL a1 0 y2.1))) (lenL (subL a1 (y2.1 + 1) (lenL a1)))) <|
          req (inRange y2.1 (lenL a1)) <|
          req (inRange y2.1 (lenL a1)) <|
          (geti a1 y2.1).bind fun p3 =>
          some ((a0, (([] : List Ls) ++ (subL a1 0 y2.1)) ++ (subL a1 (y2.1 + 1) (lenL a1)), a2, ()), p3.ad, 0, ())))
         (req (((decide (0 ≤ y2.1 + 1)) && (decide (y2.1 + 1 ≤ lenL a1))) && (decide (lenL a1 ≤ lenL a1))) <|
         req ((decide (0 ≤ y2.1)) && (decide (y2.1 ≤ lenL a1))) <|
         req (room (lenL ([] : List Ls)) (lenL (subL a1 0 y2.1))) <|
         req (room (lenL (([] : List Ls) ++ (subL a1 0 y2.1))) (lenL (subL a1 (y2.1 + 1) (lenL a1)))) <|
         req (inRange y2.1 (lenL a1)) <|
         req (inRange y2.1 (lenL a1)) <|
         (geti a1 y2.1).bind fun p3 =>
         some ((a0, (([] : List Ls) ++ (subL a1 0 y2.1)) ++ (subL a1 (y2.1 + 1) (lenL a1)), a2, ()), p3.ad, 0, ())))
        (both
         (req ((decide (0 ≤ y2.1)) && (decide (y2.1 ≤ lenL a1))) <|
         both
          (both
           (req (room (lenL ([] : List Ls)) (lenL (subL a1 0 y2.1))) <|
           req (((decide (0 ≤ y2.1 + 1)) && (decide (y2.1 + 1 ≤ lenL a1))) && (decide (lenL a1 ≤ lenL a1))) <|
           req (room (lenL (([] : List Ls) ++ (subL a1 0 y2.1))) (lenL (subL a1 (y2.1 + 1) (lenL a1)))) <|
           req (inRange y2.1 (lenL a1)) <|
           req (inRange y2.1 (lenL a1)) <|
           (geti a1 y2.1).bind fun p3 =>
           some ((a0, (([] : List Ls) ++ (subL a1 0 y2.1)) ++ (subL a1 (y2.1 + 1) (lenL a1)), a2, ()), p3.ad, 0, ()))
           (req (((decide (0 ≤ y2.1 + 1)) && (decide (y2.1 + 1 ≤ lenL a1))) && (decide (lenL a1 ≤ lenL a1))) <|
           req (room (lenL ([] : List Ls)) (lenL (subL a1 0 y2.1))) <|
           req (room (lenL (([] : List Ls) ++ (subL a1 0 y2.1))) (lenL (subL a1 (y2.1 + 1) (lenL a1)))) <|
           req (inRange y2.1 (lenL a1)) <|
           req (inRange y2.1 (lenL a1)) <|
           (geti a1 y2.1).bind fun p3 =>
           some ((a0, (([] : List Ls) ++ (subL a1 0 y2.1)) ++ (subL a1 (y2.1 + 1) (lenL a1)), a2, ()), p3.ad, 0, ())))
          (req (((decide (0 ≤ y2.1 + 1)) && (decide (y2.1 + 1 ≤ lenL a1))) && (decide (lenL a1 ≤ lenL a1))) <|
          req (room (lenL ([] : List Ls)) (lenL (subL a1 0 y2.1))) <|
          req (room (lenL (([] : List Ls) ++ (subL a1 0 y2.1))) (lenL (subL a1 (y2.1 + 1) (lenL a1)))) <|
          req (inRange y2.1 (lenL a1)) <|
          req (inRange y2.1 (lenL a1)) <|
          (geti a1 y2.1).bind fun p3 =>
          some ((a0, (([] : List Ls) ++ (subL a1 0 y2.1)) ++ (subL a1 (y2.1 + 1) (lenL a1)), a2, ()), p3.ad, 0, ())))
         (req (((decide (0 ≤ y2.1 + 1)) && (decide (y2.1 + 1 ≤ lenL a1))) && (decide (lenL a1 ≤ lenL a1))) <|
         dup 1 <|
         req ((decide (0 ≤ y2.1)) && (decide (y2.1 ≤ lenL a1))) <|
         req (room (lenL ([] : List Ls)) (lenL (subL a1 0 y2.1))) <|
         req (room (lenL (([] : List Ls) ++ (subL a1 0 y2.1))) (lenL (subL a1 (y2.1 + 1) (lenL a1)))) <|
         req (inRange y2.1 (lenL a1)) <|
         req (inRange y2.1 (lenL a1)) <|
         (geti a1 y2.1).bind fun p3 =>
         some ((a0, (([] : List Ls) ++ (subL a1 0 y2.1)) ++ (subL a1 (y2.1 + 1) (lenL a1)), a2, ()), p3.ad, 0, ())))))
      (br (decide (a3.n < a2))
       (some (((([] : List Pf), ([] : List (List Ad))), ([] : List Ls), 0, ()), (⟨false, 0, 0⟩ : Ad), 4, ()))
       ((R_LiveOf_t a1 a3.n).bind fun y2 =>
       some ((a0, y2.1, a3.n, ()), (⟨false, 0, 0⟩ : Ad), 0, ())))))))
noncomputable def law_do_L4 (rec : (((Unit) × (Unit) × (Unit) × (Unit) × (Unit) × (Int × Unit) × Unit) × (List Oq × (Int × Unit) × (Ad × Unit) × (Int × Unit) × (Ad × Unit) × List Pf × List Ls × List Pf × List Ls × List (List Ad) × List (List Ad) × Unit)) → Option ((((Unit) × (Unit) × (Int × Unit) × Unit) × (List Oq × (Int × Unit) × (Ad × Unit) × List Pf × List Ls × List (List Ad) × Unit)) ⊕ (((Unit) × (Unit) × (Unit) × (Unit) × Unit) × (List Oq × (Int × Unit) × (Ad × Unit) × (Int × Unit) × (Ad × Unit) × List Pf × List Ls × List Pf × List Ls × List (List Ad) × List (List Ad) × Unit)))) (x : (((Unit) × (Unit) × (Unit) × (Unit) × (Unit) × (Int × Unit) × Unit) × (List Oq × (Int × Unit) × (Ad × Unit) × (Int × Unit) × (Ad × Unit) × List Pf × List Ls × List Pf × List Ls × List (List Ad) × List (List Ad) × Unit))) : Option ((((Unit) × (Unit) × (Int × Unit) × Unit) × (List Oq × (Int × Unit) × (Ad × Unit) × List Pf × List Ls × List (List Ad) × Unit)) ⊕ (((Unit) × (Unit) × (Unit) × (Unit) × Unit) × (List Oq × (Int × Unit) × (Ad × Unit) × (Int × Unit) × (Ad × Unit) × List Pf × List Ls × List Pf × List Ls × List (List Ad) × List (List Ad) × Unit))) :=
 let v0 := x.1.2.2.2.2.2.1.1
 let v1 := x.2.1
 let v2 := x.2.2.1.1
 let v3 := x.2.2.2.1.1
 let v4 := x.2.2.2.2.1.1
 let v5 := x.2.2.2.2.2.1.1
 let v6 := x.2.2.2.2.2.2.1
 let v7 := x.2.2.2.2.2.2.2.1
 let v8 := x.2.2.2.2.2.2.2.2.1
 let v9 := x.2.2.2.2.2.2.2.2.2.1
 let v10 := x.2.2.2.2.2.2.2.2.2.2.1
 let v11 := x.2.2.2.2.2.2.2.2.2.2.2.1
 br (decide (v0 < lenL v1))
  (req (inRange v0 (lenL v1)) <|
  (geti v1 v0).bind fun p1 =>
  both
   ((state_Do_t (v8, v11) v9 v4 p1).bind fun y2 =>
   dup 1 <|
   br (!decide (y2.2.2.1 = 0))
    (some (Sum.inl (((()), (()), (y2.2.2.1, ()), ()), (v1, (y2.1.2.2.1, ()), (y2.2.1, ()), y2.1.1.1, y2.1.2.1, y2.1.1.2, ()))))
    (req (i64ok (v0 + 1)) <|
    rec (((()), (()), (()), (()), (()), (v0 + 1, ()), ()), (v1, (v2, ()), (v3, ()), (y2.1.2.2.1, ()), (y2.2.1, ()), v6, v7, y2.1.1.1, y2.1.2.1, v10, y2.1.1.2, ()))))
   (both
    (dup 1 <|
    (state_Do_t (v8, v11) v9 v4 p1).bind fun y2 =>
    br (!decide (y2.2.2.1 = 0))
     (some (Sum.inl (((()), (()), (y2.2.2.1, ()), ()), (v1, (y2.1.2.2.1, ()), (y2.2.1, ()), y2.1.1.1, y2.1.2.1, y2.1.1.2, ()))))
     (req (i64ok (v0 + 1)) <|
     rec (((()), (()), (()), (()), (()), (v0 + 1, ()), ()), (v1, (v2, ()), (v3, ()), (y2.1.2.2.1, ()), (y2.2.1, ()), v6, v7, y2.1.1.1, y2.1.2.1, v10, y2.1.1.2, ()))))
    (dup 1 <|
    (state_Do_t (v8, v11) v9 v4 p1).bind fun y2 =>
    br (!decide (y2.2.2.1 = 0))
     (some (Sum.inl (((()), (()), (y2.2.2.1, ()), ()), (v1, (y2.1.2.2.1, ()), (y2.2.1, ()), y2.1.1.1, y2.1.2.1, y2.1.1.2, ()))))
     (req (i64ok (v0 + 1)) <|
     rec (((()), (()), (()), (()), (()), (v0 + 1, ()), ()), (v1, (v2, ()), (v3, ()), (y2.1.2.2.1, ()), (y2.2.1, ()), v6, v7, y2.1.1.1, y2.1.2.1, v10, y2.1.1.2, ()))))))
  (some (Sum.inr ((((()), (()), (()), (()), ()), (v1, (v2, ()), (v3, ()), (v4, ()), (v5, ()), v6, v7, v8, v9, v10, v11, ())))))
noncomputable def law_do_t (a0 : List Oq) : Option (((List Pf × List (List Ad)) × (List Ls) × Int × Unit) × Ad × Int × Unit) :=
 (loopN law_do_L4 FUEL (((()), (()), (()), (()), (()), (0, ()), ()), (a0, (0, ()), ((⟨false, 0, 0⟩ : Ad), ()), (0, ()), ((⟨false, 0, 0⟩ : Ad), ()), ([] : List Pf), ([] : List Ls), ([] : List Pf), ([] : List Ls), ([] : List (List Ad)), ([] : List (List Ad)), ()))).bind fun y1 =>
 sumC y1 (fun y2 =>
  some (((y2.2.2.2.2.1, y2.2.2.2.2.2.2.1), y2.2.2.2.2.2.1, y2.2.2.1.1, ()), y2.2.2.2.1.1, y2.1.2.2.1.1, ())) (fun y3 =>
  some (((y3.2.2.2.2.2.2.2.2.1, y3.2.2.2.2.2.2.2.2.2.2.2.1), y3.2.2.2.2.2.2.2.2.2.1, y3.2.2.2.2.1.1, ()), y3.2.2.2.2.2.1.1, 0, ()))
noncomputable def law_stateBegun_t : Option (Bool × Unit) :=
 law_some_t.bind fun y1 =>
 (law_do_t y1.1).bind fun y2 =>
 (state_Do_t y2.1.1 y2.1.2.1 y2.1.2.2.1 (⟨4, (⟨(⟨false, 0, 0⟩ : Ad), 0⟩ : Pf), (⟨false, 0, 0⟩ : Ad), (⟨#[120]⟩ : ByteArray), 0, 0⟩ : Oq)).bind fun y3 =>
 (state_Do_t y2.1.1 y2.1.2.1 y2.1.2.2.1 (⟨5, (⟨(⟨false, 0, 0⟩ : Ad), 0⟩ : Pf), (⟨false, 0, 0⟩ : Ad), (ByteArray.empty), 0, 11⟩ : Oq)).bind fun y4 =>
 (state_Check_t y2.1.1 y2.1.2.1 y2.1.2.2.1).bind fun y5 =>
 br (decide (y5.1 = 0))
  (law_some_t.bind fun y6 =>
  req (inRange 0 (lenL y6.1)) <|
  (geti y6.1 0).bind fun p7 =>
  (state_Form_t p7).bind fun y8 =>
  br (decide (y8.1 = 0))
   (br (decide (y2.2.2.1 = 0))
    (br (decide (y3.2.2.1 = 0))
     (br (decide (y4.2.2.1 = 0))
      ((law_v4_t 9).bind fun y9 =>
      br (eqAd y2.2.1 y9.1)
       (br (eqAd y3.2.1 y2.2.1)
        (br (decide (lenL y2.1.2.1 = 1))
         (br (decide (lenL y3.1.2.1 = 0))
          (br (decide (lenL y4.1.2.1 = 0))
           (some (decide (y4.1.2.2.1 = 11), ()))
           (some (false, ())))
          (some (false, ())))
         (some (false, ())))
        (some (false, ())))
       (some (false, ())))
      (some (false, ())))
     (some (false, ())))
    (some (false, ())))
   (some (false, ())))
  (some (false, ()))
noncomputable def law_StateTells_t (a0 : List Pf × List (List Ad)) (a1 : List Ls) (a2 : Int) (a3 : Oq) : Option (Bool × Unit) :=
 (state_Do_t a0 a1 a2 a3).bind fun y1 =>
 (R_CheckState_t a0 a1 a2).bind fun y2 =>
 br (decide (y2.1 = 0))
  ((R_DoOf_t a0 a1 a2 a3).bind fun y3 =>
  law_stateBegun_t.bind fun y4 =>
  (br y4.1
    ((state_Check_t a0 a1 a2).bind fun y5 =>
    (R_CheckState_t a0 a1 a2).bind fun y6 =>
    some (decide (y5.1 = y6.1)))
    (some false)).bind fun c5 =>
  (br c5
    ((state_Form_t a3).bind fun y6 =>
    (R_CheckOp_t a3).bind fun y7 =>
    some (decide (y6.1 = y7.1)))
    (some false)).bind fun c6 =>
  (br c6
    ((law_stateIs_t y1.1.1 y1.1.2.1 y1.1.2.2.1 y1.2.2.1 y3.2.2.1 y3.1.1 y3.1.2.1 y3.1.2.2.1).bind fun y7 =>
    some y7.1)
    (some false)).bind fun c7 =>
  (br c7
    (some (eqAd y1.2.1 y3.2.1))
    (some false)).bind fun c8 =>
  some (c8, ()))
  (law_stateBegun_t.bind fun y3 =>
  (br y3.1
    ((state_Check_t a0 a1 a2).bind fun y4 =>
    (R_CheckState_t a0 a1 a2).bind fun y5 =>
    some (decide (y4.1 = y5.1)))
    (some false)).bind fun c4 =>
  (br c4
    ((state_Form_t a3).bind fun y5 =>
    (R_CheckOp_t a3).bind fun y6 =>
    some (decide (y5.1 = y6.1)))
    (some false)).bind fun c5 =>
  (br c5
    ((law_stateIs_t y1.1.1 y1.1.2.1 y1.1.2.2.1 y1.2.2.1 y2.1 (([] : List Pf), ([] : List (List Ad))) ([] : List Ls) 0).bind fun y6 =>
    some y6.1)
    (some false)).bind fun c6 =>
  (br c6
    (some (eqAd y1.2.1 (⟨false, 0, 0⟩ : Ad)))
    (some false)).bind fun c7 =>
  some (c7, ()))
end Go.Ma
namespace Go.Ma
open Go
theorem chkLs_ad {x : Ls} (h : chkLs x = 0) : chkA x.ad = 0 ∧ whoOk x.who = true ∧ betw x.upto 0 10499 = true := by
 unfold chkLs at h
 split at h
 ·rename_i h1; exact absurd h h1
 split at h
 ·cases h
 split at h
 ·cases h
 ·rename_i h1 h2 h3
  exact ⟨Decidable.not_not.1 h1, by simpa using h2, by simpa using h3⟩
theorem chkLsF_all : ∀ {l : List Ls}, chkLsF l = 0 → ∀ x ∈ l, chkLs x = 0
 | [], _, x, hx => by cases hx
 | y :: r, h, x, hx => by
  unfold chkLsF at h
  split at h
  ·rename_i h1; exact absurd h h1
  ·rename_i h1
   rcases List.mem_cons.1 hx with rfl | hx
   ·exact Decidable.not_not.1 h1
   ·exact chkLsF_all h x hx
theorem allC_ok {l : List Ls} {now : Int} (h : allC l now = 0) : l.length ≤ 20 ∧ (∀ x ∈ l, chkLs x = 0) ∧ ascL l = true ∧ betw now 0 9999 = true := by
 have h0 := allC_len h
 unfold allC at h
 rw [if_neg (by omega)] at h
 split at h
 ·rename_i h1; exact absurd h h1
 split at h
 ·cases h
 split at h
 ·cases h
 ·rename_i h1 h2 h3
  exact ⟨h0, chkLsF_all (Decidable.not_not.1 h1), by simpa using h2, by simpa using h3⟩
theorem rleases_loop1 {l : List Ls} (h : lsIn l) (hlen : l.length ≤ 20) (now : Int) : loopN R_CheckLeases_L4 FUEL (((), (now, ()), (0, ()), ()), (l, ())) = some (lsOut l now (chkLsF l)) := by
 have := loop_up (step := R_CheckLeases_L4) (fun i => (((), (now, ()), ((i : Int), ()), ()), (l, ()))) l.length (fun i => some (lsOut l now (chkLsF (l.drop i)))) (fun rec i hi hr => ?_) (fun rec => ?_) FUEL 0 (Nat.zero_le _) (fuel_gt (by omega))
 ·exact this
 ·obtain ⟨e, he⟩ : ∃ e, l[i]? = some e := ⟨_, List.getElem?_eq_getElem hi⟩
  have hin := h e (List.mem_of_getElem? he)
  have r1 : inRange (i : Int) (lenL l) = true := zq12 (by omega) (by unfold lenL; omega)
  simp only [R_CheckLeases_L4]
  rw [decide_eq_true (show (i : Int) < lenL l by unfold lenL; omega), br_true]
  simp only [r1, req_true, geti_at he, bind_s, R_CheckAddr_eq hin.1, R_IsWho_eq hin.2.1, R_between_eq]
  rw [drop_cons he, chkLsF]
  unfold chkLs
  by_cases hc : chkA e.ad = 0
  ·simp only [hc, decide_true, Bool.not_true, br_false, ne_eq, not_true, if_false]
   cases whoOk e.who
   ·rfl
   ·simp only [Bool.not_true, br_false, Bool.true_eq_false, if_false]
    cases betw e.upto 0 10499
    ·rfl
    ·simp only [Bool.not_true, br_false, Bool.true_eq_false, if_false, not_true]
     rw [show ((i : Int) + 1) = ((i + 1 : Nat) : Int) by omega, req_of (i64ok_of (by omega) (by omega)), hr]
  ·simp only [hc, decide_false, Bool.not_false, br_true, ne_eq, not_false_eq_true, if_true]
   rw [lsOut_ne hc]
 ·simp only [R_CheckLeases_L4]
  rw [decide_eq_false (show ¬ (l.length : Int) < lenL l by unfold lenL; omega), br_false, List.drop_of_length_le (Nat.le_refl _)]
  rfl
theorem ahead_ord {a b : Ad} (ha : a.In) (hb : b.In) : aheadA a b = decide (ordA a b < 0) := by
 rw [ahead_rank ha hb]
 exact decide_eq_decide.2 (ord_rank ha hb).1.symm
theorem rleases_loop2 {l : List Ls} (h : lsIn l) (hc : ∀ x ∈ l, chkLs x = 0) (hlen : l.length ≤ 20) (now : Int) : loopN R_CheckLeases_L14 FUEL (((), (now, ()), (1, ()), ()), (l, ())) = some (ascOut l now (ascL l)) := by
 have := loop_upI (step := R_CheckLeases_L14) (fun i => (((), (now, ()), ((i : Int), ()), ()), (l, ()))) (max 1 l.length) (fun i => some (ascOut l now (ascAt l i))) (fun i => 1 ≤ i) (fun rec i hi h1 hr => ?_) (fun rec h1 => ?_) FUEL 1 (by omega) (Nat.le_refl _) (fuel_gt (by omega))
 ·rw [ascAt_one] at this
  exact this
 ·have hi' : i < l.length := by omega
  obtain ⟨k, rfl⟩ : ∃ k, i = k + 1 := ⟨i - 1, by omega⟩
  obtain ⟨e, he⟩ : ∃ e, l[k]? = some e := ⟨_, List.getElem?_eq_getElem (by omega)⟩
  obtain ⟨e', he'⟩ : ∃ e, l[k + 1]? = some e := ⟨_, List.getElem?_eq_getElem hi'⟩
  have r1 : inRange ((k + 1 : Nat) : Int) (lenL l) = true := zq12 (by omega) (by unfold lenL; omega)
  have r2 : inRange (k : Int) (lenL l) = true := zq12 (by omega) (by unfold lenL; omega)
  have m1 := List.mem_of_getElem? he
  have m2 := List.mem_of_getElem? he'
  simp only [R_CheckLeases_L14]
  rw [decide_eq_true (show ((k + 1 : Nat) : Int) < lenL l by unfold lenL; omega), br_true, show (((k + 1 : Nat) : Int) - 1) = (k : Int) by omega, req_of (i64ok_of (by omega) (by omega))]
  simp only [r1, r2, req_true, geti_at he, geti_at he', bind_s, R_IsAhead_eq (h e m1).1 (h e' m2).1 (chkLs_ad (hc e m1)).1 (chkLs_ad (hc e' m2)).1, ahead_ord (h e m1).1 (h e' m2).1]
  have ha : ascAt l (k + 1) = (decide (ordA e.ad e'.ad < 0) && ascAt l (k + 1 + 1)) := by
   unfold ascAt
   simp only [Nat.add_sub_cancel, he, he']
   rw [drop_cons he', ascF]
  rw [ha]
  by_cases hc : ordA e.ad e'.ad < 0
  ·simp only [hc, decide_true, Bool.not_true, br_false, Bool.true_and]
   rw [show (((k + 1 : Nat) : Int) + 1) = ((k + 1 + 1 : Nat) : Int) by omega, req_of (i64ok_of (by omega) (by omega)), hr (by omega)]
  ·simp only [hc, decide_false, Bool.not_false, br_true, Bool.false_and]
   rfl
 ·simp only [R_CheckLeases_L14]
  rw [decide_eq_false (show ¬ ((max 1 l.length : Nat) : Int) < lenL l by unfold lenL; omega), br_false]
  have : ascAt l (max 1 l.length) = true := by
   unfold ascAt
   rw [List.drop_of_length_le (by omega)]
   cases l[max 1 l.length - 1]? <;> rfl
  rw [this]
  rfl
theorem R_CheckLeases_eq {l : List Ls} (h : lsIn l) (now : Int) : R_CheckLeases_t l now = some (allC l now, ()) := by
 unfold R_CheckLeases_t allC
 by_cases hlen : l.length > 20
 ·rw [if_pos hlen, decide_eq_true (show lenL l > 20 by unfold lenL; omega), br_true]
 rw [if_neg hlen, decide_eq_false (show ¬ lenL l > 20 by unfold lenL; omega), br_false, rleases_loop1 h (by omega), bind_s]
 by_cases hc : chkLsF l = 0
 rotate_left
 ·rw [lsOut_ne hc, if_pos hc]; rfl
 rw [if_neg (fun h => h hc), hc]
 simp only [lsOut, if_true, sumC]
 rw [rleases_loop2 h (chkLsF_all hc) (by omega), bind_s]
 cases ascL l
 ·rfl
 ·simp only [ascOut, if_true, sumC, Bool.true_eq_false, if_false, R_between_eq, bind_s]
  cases betw now 0 9999 <;> rfl
def adIn (l : List Ad) : Prop := ∀ a ∈ l, a.In
def backB : Option Ad → Ad → Bool
 | some b, a => decide (ordA b a ≥ 0)
 | none, _ => false
def keptF (p : Pf) : Option Ad → List Ad → Int
 | _, [] => 0
 | prev, a :: r => if chkA a ≠ 0 then chkA a else if holds p a = false then 5 else if backB prev a = true then 4 else keptF p (some a) r
def chkPool (p : Pf) (kp : List Ad) : Int := if chkP p ≠ 0 then chkP p else if ¬ ((wid p.ad.v6 : Nat) : Int) - p.bits ≤ 4 ∨ kp.length > 6 then 2 else keptF p none kp
def prevA (kp : List Ad) (i : Nat) : Option Ad := match i with | 0 => none | k + 1 => kp[k]?
def poolOut (kp : List Ad) (r : Int) : (((Int × Unit) × Unit) × (List Ad × Unit)) ⊕ ((Unit) × (List Ad × Unit)) := if r = 0 then Sum.inr ((), (kp, ())) else Sum.inl (((r, ()), ()), (kp, ()))
theorem poolOut_ne {kp : List Ad} {r : Int} (h : r ≠ 0) : poolOut kp r = Sum.inl (((r, ()), ()), (kp, ())) := by rw [poolOut, if_neg h]
theorem pool_loop {p : Pf} (cp : chkP p = 0) {kp : List Ad} (h : adIn kp) (hlen : kp.length ≤ 6) : loopN lease_Pool_L7 FUEL (((), (), (lenL kp, ()), (0, ()), ()), (kp, (p.ad.v6, p.ad.hi, p.ad.lo, p.bits, ()), ())) = some (poolOut kp (keptF p none kp)) := by
 obtain ⟨b1, b2⟩ := chkP_bits cp
 have := loop_up (step := lease_Pool_L7) (fun i => (((), (), (lenL kp, ()), ((i : Int), ()), ()), (kp, (p.ad.v6, p.ad.hi, p.ad.lo, p.bits, ()), ()))) kp.length (fun i => some (poolOut kp (keptF p (prevA kp i) (kp.drop i)))) (fun rec i hi hr => ?_) (fun rec => ?_) FUEL 0 (Nat.zero_le _) (fuel_gt (by omega))
 ·exact this
 ·obtain ⟨e, he⟩ : ∃ e, kp[i]? = some e := ⟨_, List.getElem?_eq_getElem hi⟩
  simp only [lease_Pool_L7]
  rw [decide_eq_true (show (i : Int) < lenL kp by unfold lenL; omega), br_true, req_of (zq12 (by omega) (by unfold lenL; omega)), geti_at he, bind_s, addr_Check_eq, bind_s, drop_cons he, keptF]
  by_cases hc : chkA e = 0
  rotate_left
  ·simp only [hc, decide_false, Bool.not_false, br_true, ne_eq, not_false_eq_true, if_true]
   rw [poolOut_ne hc]
  simp only [hc, decide_true, Bool.not_true, br_false, ne_eq, not_true, if_false]
  rw [prefix_Holds_eq (p := p) b1 b2 (h e (List.mem_of_getElem? he)), bind_s]
  cases holds p e
  ·rfl
  simp only [Bool.not_true, br_false, Bool.true_eq_false, if_false]
  have hcd : (br (decide ((i : Int) > 0)) (req (i64ok ((i : Int) - 1)) (req (inRange ((i : Int) - 1) (lenL kp)) ((geti kp ((i : Int) - 1)).bind fun p4 => (addr_Order_t p4 e).bind fun y5 => some (decide (y5.1 ≥ 0))))) (some false)) = some (backB (prevA kp i) e) := by
   cases i with
   | zero => rfl
   | succ k =>
    obtain ⟨e', he'⟩ : ∃ e, kp[k]? = some e := ⟨_, List.getElem?_eq_getElem (by omega)⟩
    rw [decide_eq_true (by omega), br_true, show (((k + 1 : Nat) : Int) - 1) = (k : Int) by omega, req_of (i64ok_of (by omega) (by omega)), req_of (zq12 (by omega) (by unfold lenL; omega)), geti_at he', bind_s, addr_Order_eq, bind_s]
    simp only [prevA, he', backB]
  rw [hcd, bind_s]
  have hp1 : prevA kp (i + 1) = some e := he
  cases (backB (prevA kp i) e)
  ·simp only [br_false, Bool.false_eq_true, if_false]
   rw [show ((i : Int) + 1) = ((i + 1 : Nat) : Int) by omega, req_of (i64ok_of (by omega) (by omega)), hr, hp1]
  ·rfl
 ·simp only [lease_Pool_L7]
  rw [decide_eq_false (show ¬ (kp.length : Int) < lenL kp by unfold lenL; omega), br_false, List.drop_of_length_le (Nat.le_refl _)]
  rfl
theorem lease_Pool_eq {p : Pf} (hp : p.In) {kp : List Ad} (h : adIn kp) : lease_Pool_t p kp = some (chkPool p kp, ()) := by
 unfold lease_Pool_t chkPool
 rw [prefix_Check_eq hp, bind_s]
 by_cases hc : chkP p = 0
 rotate_left
 ·simp only [hc, decide_false, Bool.not_false, br_true, ne_eq, not_false_eq_true, if_true]
 simp only [hc, decide_true, Bool.not_true, br_false, ne_eq, not_true, if_false]
 rw [lease_Narrow_eq hc, bind_s]
 by_cases hn : ((wid p.ad.v6 : Nat) : Int) - p.bits ≤ 4
 rotate_left
 ·simp only [hn, decide_false, Bool.not_false, br_true, bind_s, not_false_eq_true, true_or, if_true]
 by_cases hk : kp.length > 6
 ·rw [if_pos (.inr hk)]
  simp only [hn, decide_true, Bool.not_true, br_false, bind_s]
  rw [decide_eq_true (show lenL kp > 6 by unfold lenL; omega), br_true]
 rw [if_neg (by simp only [not_or]; exact ⟨fun h => h hn, hk⟩)]
 simp only [hn, decide_true, Bool.not_true, br_false, bind_s]
 rw [decide_eq_false (show ¬ lenL kp > 6 by unfold lenL; omega), br_false, pool_loop hc h (by omega), bind_s]
 unfold poolOut
 by_cases h0 : keptF p none kp = 0
 ·rw [if_pos h0, h0]; rfl
 ·rw [if_neg h0]; rfl
theorem rpool_loop {p : Pf} (hp : p.In) (cp : chkP p = 0) {kp : List Ad} (h : adIn kp) (hlen : kp.length ≤ 6) : loopN R_CheckPool_L7 FUEL (((), (0, ()), ()), (kp, (p.ad.v6, p.ad.hi, p.ad.lo, p.bits, ()), ())) = some (poolOut kp (keptF p none kp)) := by
 have := loop_upI (step := R_CheckPool_L7) (fun i => (((), ((i : Int), ()), ()), (kp, (p.ad.v6, p.ad.hi, p.ad.lo, p.bits, ()), ()))) kp.length (fun i => some (poolOut kp (keptF p (prevA kp i) (kp.drop i)))) (fun i => ∀ b, prevA kp i = some b → chkA b = 0) (fun rec i hi hI hr => ?_) (fun rec _ => ?_) FUEL 0 (Nat.zero_le _) (fun b hb => by cases hb) (fuel_gt (by omega))
 ·exact this
 ·obtain ⟨e, he⟩ : ∃ e, kp[i]? = some e := ⟨_, List.getElem?_eq_getElem hi⟩
  have hin := h e (List.mem_of_getElem? he)
  have r1 : inRange (i : Int) (lenL kp) = true := zq12 (by omega) (by unfold lenL; omega)
  simp only [R_CheckPool_L7]
  rw [decide_eq_true (show (i : Int) < lenL kp by unfold lenL; omega), br_true]
  simp only [r1, req_true, geti_at he, bind_s, R_CheckAddr_eq hin]
  rw [drop_cons he, keptF]
  by_cases hc : chkA e = 0
  rotate_left
  ·simp only [hc, decide_false, Bool.not_false, br_true, ne_eq, not_false_eq_true, if_true]
   rw [poolOut_ne hc]
  simp only [hc, decide_true, Bool.not_true, br_false, ne_eq, not_true, if_false]
  rw [R_HasAddr_eq (p := p) hp cp hin hc, bind_s]
  cases holds p e
  ·rfl
  simp only [Bool.not_true, br_false, Bool.true_eq_false, if_false]
  have hcd : (br (decide ((i : Int) > 0)) (req (i64ok ((i : Int) - 1)) (req (inRange ((i : Int) - 1) (lenL kp)) ((geti kp ((i : Int) - 1)).bind fun p5 => (R_IsAhead_t p5 e).bind fun y7 => some (!y7.1)))) (some false)) = some (backB (prevA kp i) e) := by
   cases i with
   | zero => rfl
   | succ k =>
    obtain ⟨e', he'⟩ : ∃ e, kp[k]? = some e := ⟨_, List.getElem?_eq_getElem (by omega)⟩
    have hin' := h e' (List.mem_of_getElem? he')
    rw [decide_eq_true (by omega), br_true, show (((k + 1 : Nat) : Int) - 1) = (k : Int) by omega, req_of (i64ok_of (by omega) (by omega)), req_of (zq12 (by omega) (by unfold lenL; omega)), geti_at he', bind_s, R_IsAhead_eq hin' hin (hI e' he') hc, bind_s]
    simp only [prevA, he', backB, ahead_ord hin' hin]
    by_cases ho : ordA e' e < 0
    ·have : ¬ ordA e' e ≥ 0 := by omega
     simp [ho, this]
    ·have : ordA e' e ≥ 0 := by omega
     simp [ho, this]
  rw [hcd, bind_s]
  have hp1 : prevA kp (i + 1) = some e := he
  cases (backB (prevA kp i) e)
  ·simp only [br_false, Bool.false_eq_true, if_false]
   rw [show ((i : Int) + 1) = ((i + 1 : Nat) : Int) by omega, req_of (i64ok_of (by omega) (by omega)), hr (fun b hb => by rw [hp1] at hb; cases hb; exact hc), hp1]
  ·rfl
 ·simp only [R_CheckPool_L7]
  rw [decide_eq_false (show ¬ (kp.length : Int) < lenL kp by unfold lenL; omega), br_false, List.drop_of_length_le (Nat.le_refl _)]
  rfl
theorem R_CheckPool_eq {p : Pf} (hp : p.In) {kp : List Ad} (h : adIn kp) : R_CheckPool_t p kp = some (chkPool p kp, ()) := by
 unfold R_CheckPool_t chkPool
 rw [R_CheckPrefix_eq hp, bind_s]
 by_cases hc : chkP p = 0
 rotate_left
 ·simp only [hc, decide_false, Bool.not_false, br_true, ne_eq, not_false_eq_true, if_true]
 simp only [hc, decide_true, Bool.not_true, br_false, ne_eq, not_true, if_false]
 rw [R_IsNarrow_eq hc, bind_s]
 by_cases hn : ((wid p.ad.v6 : Nat) : Int) - p.bits ≤ 4
 rotate_left
 ·simp only [hn, decide_false, Bool.not_false, br_true, bind_s, not_false_eq_true, true_or, if_true]
 by_cases hk : kp.length > 6
 ·rw [if_pos (.inr hk)]
  simp only [hn, decide_true, Bool.not_true, br_false, bind_s]
  rw [decide_eq_true (show lenL kp > 6 by unfold lenL; omega), br_true]
 rw [if_neg (by simp only [not_or]; exact ⟨fun h => h hn, hk⟩)]
 simp only [hn, decide_true, Bool.not_true, br_false, bind_s]
 rw [decide_eq_false (show ¬ lenL kp > 6 by unfold lenL; omega), br_false, rpool_loop hp hc h (by omega), bind_s]
 unfold poolOut
 by_cases h0 : keptF p none kp = 0
 ·rw [if_pos h0, h0]; rfl
 ·rw [if_neg h0]; rfl
end Go.Ma
namespace Go.Ma
open Go
theorem idxI_nonneg (o : Option Nat) : decide (idxI o ≥ 0) = o.isSome := by
 cases o with
 | none => rfl
 | some k =>
  have : idxI (some k) ≥ 0 := by show (k : Int) ≥ 0; omega
  simp [this]
theorem twiceL_app : ∀ (l : List Ls) (seen : List ByteArray) (x : Ls), twiceL seen (l ++ [x]) = (twiceL seen l || (seen.any (fun s => decide (s = x.who)) || l.any (whoP x.who)))
 | [], seen, x => by
  show (bif seen.any (fun s => decide (s = x.who)) then true else false) = _
  cases seen.any (fun s => decide (s = x.who)) <;> rfl
 | y :: r, seen, x => by
  show (bif seen.any (fun s => decide (s = y.who)) then true else twiceL (y.who :: seen) (r ++ [x])) = ((bif seen.any (fun s => decide (s = y.who)) then true else twiceL (y.who :: seen) r) || _)
  rw [twiceL_app r (y.who :: seen) x]
  cases seen.any (fun s => decide (s = y.who))
  ·simp only [cond_false, List.any_cons]
   rw [show whoP x.who y = decide (y.who = x.who) from rfl]
   generalize seen.any (fun s => decide (s = x.who)) = b1
   generalize twiceL (y.who :: seen) r = b2
   generalize r.any (whoP x.who) = b3
   generalize decide (y.who = x.who) = b4
   revert b1 b2 b3 b4
   decide
  ·rfl
def ofF (p : Pf) : List Ls → List Ls → Int
 | _, [] => 0
 | bf, x :: r => if holds p x.ad = false then 5 else if bf.any (whoP x.who) = true then 6 else ofF p (bf ++ [x]) r
def chkOf (p : Pf) (kp : List Ad) (l : List Ls) (now : Int) : Int := if chkPool p kp ≠ 0 then chkPool p kp else if allC l now ≠ 0 then allC l now else ofF p [] l
theorem chkPool_ok {p : Pf} {kp : List Ad} (h : chkPool p kp = 0) : chkP p = 0 ∧ ((wid p.ad.v6 : Nat) : Int) - p.bits ≤ 4 ∧ kp.length ≤ 6 := by
 unfold chkPool at h
 split at h
 ·rename_i h1; exact absurd h h1
 split at h
 ·cases h
 ·rename_i h1 h2
  simp only [not_or, Decidable.not_not] at h2
  exact ⟨Decidable.not_not.1 h1, h2.1, by omega⟩
theorem take_at {l : List Ls} {i : Nat} {x : Ls} (h : l[i]? = some x) : l.take (i + 1) = l.take i ++ [x] := by
 have hi := (List.getElem?_eq_some_iff.1 h).1
 rw [List.take_succ_eq_append_getElem hi, (List.getElem?_eq_some_iff.1 h).2]
end Go.Ma
namespace Go.Ma
open Go
def freeBits (p : Pf) : Nat := wid p.ad.v6 - p.bits.toNat
def addrI (p : Pf) (i : Nat) : Ad := ofNum p.ad.v6 (p.ad.num + i)
theorem narrow {p : Pf} (hp : p.In) (cp : chkP p = 0) (hn : ((wid p.ad.v6 : Nat) : Int) - p.bits ≤ 4) : freeBits p ≤ 4 ∧ 2 ^ freeBits p ≤ 16 ∧ p.ad.num % 2 ^ freeBits p = 0 ∧ p.ad.num + 2 ^ freeBits p ≤ 2 ^ wid p.ad.v6 := by
 obtain ⟨b1, b2⟩ := chkP_bits cp
 have h1 : freeBits p ≤ 4 := by unfold freeBits; omega
 have h2 : 2 ^ freeBits p ≤ 2 ^ 4 := Nat.pow_le_pow_right (by omega) h1
 have h3 : p.ad.num % 2 ^ freeBits p = 0 := (cutN_iff _ _).1 ((cutA_iff hp.1.wf p.bits).1 (chkP_cut cp))
 have h4 := right_num p.ad ⟨hp.1.wf, chkP_ad cp⟩
 refine ⟨h1, h2, h3, ?_⟩
 have hk : freeBits p ≤ wid p.ad.v6 := by unfold freeBits; omega
 have h5 : 2 ^ wid p.ad.v6 = 2 ^ freeBits p * 2 ^ (wid p.ad.v6 - freeBits p) := by rw [← Nat.pow_add]; congr 1; omega
 obtain ⟨m, hm⟩ := Nat.dvd_of_mod_eq_zero h3
 rw [hm, h5] at h4 ⊢
 have := Nat.lt_of_mul_lt_mul_left h4
 calc 2 ^ freeBits p * m + 2 ^ freeBits p = 2 ^ freeBits p * (m + 1) := by rw [Nat.mul_add, Nat.mul_one]
  _ ≤ _ := Nat.mul_le_mul_left _ this
theorem wid_pow (v : Bool) : 2 ^ wid v ≤ 340282366920938463463374607431768211456 := by cases v <;> decide
theorem ofNum_in {v : Bool} {n : Nat} (h : n < 2 ^ wid v) : (ofNum v n).In := by
 have := wid_pow v
 unfold ofNum
 exact ⟨⟨by simp only; omega, by simp only; omega⟩, by simp only; omega, by simp only; omega⟩
theorem ofNum_chk {v : Bool} {n : Nat} (h : n < 2 ^ wid v) : chkA (ofNum v n) = 0 := by
 unfold chkA ofNum
 cases v
 ·rw [show wid false = 32 from rfl] at h
  rw [if_neg]
  simp only
  omega
 ·simp
theorem or_mask (x k : Nat) (hx : x < 18446744073709551616) (hk : k ≤ 64) (hm : x % 2 ^ k = 0) : aop .or .u64 (x : Int) ((2 ^ k - 1 : Nat) : Int) = ((x + (2 ^ k - 1) : Nat) : Int) := by
 have hp := Nat.two_pow_pos k
 have hle : 2 ^ k ≤ 2 ^ 64 := Nat.pow_le_pow_right (by omega) hk
 obtain ⟨m, rfl⟩ := Nat.dvd_of_mod_eq_zero hm
 have hlt : 2 ^ k * m + 2 ^ k ≤ 18446744073709551616 := by
  have h5 : (18446744073709551616 : Nat) = 2 ^ k * 2 ^ (64 - k) := by rw [← Nat.pow_add]; rw [show k + (64 - k) = 64 by omega]
  rw [h5] at hx ⊢
  have := Nat.lt_of_mul_lt_mul_left hx
  calc 2 ^ k * m + 2 ^ k = 2 ^ k * (m + 1) := by rw [Nat.mul_add, Nat.mul_one]
   _ ≤ _ := Nat.mul_le_mul_left _ this
 have e1 : ∀ n : Nat, n < 18446744073709551616 → (BitVec.ofInt 64 (n : Int)).toNat = n := fun n hn => by
  rw [BitVec.toNat_ofInt]
  have : ((n : Int) % ((2 ^ 64 : Nat) : Int)) = (n : Int) := Int.emod_eq_of_lt (by omega) (by omega)
  rw [this]; rfl
 show IntKind.u64.wrap (((BitVec.ofInt 64 ((2 ^ k * m : Nat) : Int) ||| BitVec.ofInt 64 ((2 ^ k - 1 : Nat) : Int)).toNat : Nat) : Int) = _
 rw [BitVec.toNat_or, e1 _ (by omega), e1 _ (by omega), ← Nat.two_pow_add_eq_or_of_lt (by omega), wrap_u64 (by omega) (by omega)]
theorem prefix_Last_eq {p : Pf} (hp : p.In) (cp : chkP p = 0) (hn : ((wid p.ad.v6 : Nat) : Int) - p.bits ≤ 4) : prefix_Last_t p = some (addrI p (2 ^ freeBits p - 1), ()) := by
 obtain ⟨b1, b2⟩ := chkP_bits cp
 obtain ⟨n1, n2, n3, n4⟩ := narrow hp cp hn
 have hpp := Nat.two_pow_pos (freeBits p)
 obtain ⟨⟨h1, h2⟩, h3, h4⟩ := hp.1
 unfold prefix_Last_t
 rw [prefix_mask_eq p.ad p.bits b1 b2, bind_s, maskA_parts]
 show some _ = some _
 have k1 : wid p.ad.v6 - p.bits.toNat - 64 = 0 := by unfold freeBits at n1; omega
 have k2 : min (wid p.ad.v6 - p.bits.toNat) 64 = freeBits p := by unfold freeBits at n1 ⊢; omega
 rw [k1, k2]
 obtain ⟨hi, hhi⟩ := Int.eq_ofNat_of_zero_le h1
 obtain ⟨lo, hlo⟩ := Int.eq_ofNat_of_zero_le h3
 have hnum : p.ad.num = hi * 18446744073709551616 + lo := by unfold Ad.num; rw [hhi, hlo]; rfl
 have hlo2 : lo % 2 ^ freeBits p = 0 := by
  rw [hnum] at n3
  have h5 : (18446744073709551616 : Nat) = 2 ^ freeBits p * 2 ^ (64 - freeBits p) := by rw [← Nat.pow_add]; rw [show freeBits p + (64 - freeBits p) = 64 by omega]
  rw [h5, Nat.mul_left_comm] at n3
  rwa [Nat.mul_add_mod] at n3
 have o1 : aop .or .u64 p.ad.hi ((2 ^ 0 - 1 : Nat) : Int) = p.ad.hi := by
  rw [hhi, or_mask hi 0 (by omega) (by omega) (Nat.mod_one _)]
  simp
 have o2 : aop .or .u64 p.ad.lo ((2 ^ freeBits p - 1 : Nat) : Int) = ((lo + (2 ^ freeBits p - 1) : Nat) : Int) := by
  rw [hlo, or_mask lo (freeBits p) (by omega) (by omega) hlo2]
 simp only [o1, o2]
 have hlt : lo + 2 ^ freeBits p ≤ 18446744073709551616 := by
  have h5 : (18446744073709551616 : Nat) = 2 ^ freeBits p * 2 ^ (64 - freeBits p) := by rw [← Nat.pow_add]; rw [show freeBits p + (64 - freeBits p) = 64 by omega]
  obtain ⟨m, rfl⟩ := Nat.dvd_of_mod_eq_zero hlo2
  have hx : 2 ^ freeBits p * m < 2 ^ freeBits p * 2 ^ (64 - freeBits p) := by omega
  have := Nat.lt_of_mul_lt_mul_left hx
  rw [h5]
  calc 2 ^ freeBits p * m + 2 ^ freeBits p = 2 ^ freeBits p * (m + 1) := by rw [Nat.mul_add, Nat.mul_one]
   _ ≤ _ := Nat.mul_le_mul_left _ this
 unfold addrI ofNum
 rw [hnum, hhi]
 have q1 : (hi * 18446744073709551616 + lo + (2 ^ freeBits p - 1)) / 18446744073709551616 = hi := by omega
 have q2 : (hi * 18446744073709551616 + lo + (2 ^ freeBits p - 1)) % 18446744073709551616 = lo + (2 ^ freeBits p - 1) := by omega
 rw [q1, q2]
theorem addr_After_eq {v : Bool} {n : Nat} (h : n + 1 < 2 ^ wid v) : addr_After_t (ofNum v n) = some (ofNum v (n + 1), true, ()) := by
 unfold addr_After_t
 simp only [both_self, dup_eq]
 have hadd : ∀ m : Nat, aop .add .u64 (m : Int) 1 = (((m + 1) % 18446744073709551616 : Nat) : Int) := fun m => by
  simp only [aop, wrap_u64_mod]
  omega
 have hw := wid_pow v
 cases v
 ·rw [show wid false = 32 from rfl] at h
  have q1 : (n + 1) / 18446744073709551616 = 0 := by omega
  have q2 : n / 18446744073709551616 = 0 := by omega
  have q3 : (n % 18446744073709551616 + 1) % 18446744073709551616 = n + 1 := by omega
  have q4 : (n + 1) % 18446744073709551616 = n + 1 := by omega
  simp only [ofNum, hadd, br_false, bind_s, q1, q2, q3, q4, both_self]
  rw [decide_eq_true (show (((n + 1 : Nat) : Int)) < 4294967296 by omega)]
 ·rw [show wid true = 128 from rfl] at h
  simp only [ofNum, hadd, br_true, bind_s]
  by_cases hc : n % 18446744073709551616 + 1 = 18446744073709551616
  ·have q1 : (n + 1) / 18446744073709551616 = n / 18446744073709551616 + 1 := by omega
   have q2 : (n + 1) % 18446744073709551616 = 0 := by omega
   have q3 : (n / 18446744073709551616 + 1) % 18446744073709551616 = n / 18446744073709551616 + 1 := by omega
   rw [hc, Nat.mod_self, decide_eq_true (show ((0 : Nat) : Int) = 0 from rfl), br_true, q1, q2, q3]
   rw [decide_eq_false (show ¬ (((n / 18446744073709551616 + 1 : Nat) : Int)) = 0 by omega)]
   rfl
  ·have q1 : (n + 1) / 18446744073709551616 = n / 18446744073709551616 := by omega
   have q2 : (n + 1) % 18446744073709551616 = n % 18446744073709551616 + 1 := by omega
   have q3 : (n % 18446744073709551616 + 1) % 18446744073709551616 = n % 18446744073709551616 + 1 := by omega
   rw [q3, decide_eq_false (show ¬ (((n % 18446744073709551616 + 1 : Nat) : Int)) = 0 by omega), br_false, q1, q2]
theorem ofNum_ne {v : Bool} {n m : Nat} (h : n ≠ m) : ofNum v n ≠ ofNum v m := fun e => h (by have := congrArg Ad.num e; rwa [num_ofNum, num_ofNum] at this)
theorem allA_eq (v : Bool) (base c : Nat) (h : base + c ≤ 2 ^ wid v) : ∀ (fuel d : Nat), d < fuel → d < c → allA (ofNum v (base + (c - 1))) fuel (ofNum v (base + (c - 1 - d))) = some ((List.range' (c - 1 - d) (d + 1)).map fun i => ofNum v (base + i))
 | 0, d, h, _ => by omega
 | fuel + 1, d, h1, h2 => by
  rw [allA]
  cases d with
  | zero =>
   rw [decide_eq_true (show ofNum v (base + (c - 1 - 0)) = ofNum v (base + (c - 1)) from rfl), br_true]
   rfl
  | succ d =>
   rw [decide_eq_false (ofNum_ne (by omega)), br_false, addr_After_eq (by omega), bind_s, br_true, show base + (c - 1 - (d + 1)) + 1 = base + (c - 1 - d) by omega, allA_eq v base c h fuel d (by omega) (by omega)]
   have hr : List.range' (c - 1 - (d + 1)) (d + 1 + 1) = (c - 1 - (d + 1)) :: List.range' (c - 1 - d) (d + 1) := by
    rw [List.range'_succ]
    congr 2
    omega
   rw [Option.map_some, hr, List.map_cons]
def takenB (kp : List Ad) (b : List Ls) (a : Ad) : Bool := kp.any (fun x => decide (a = x)) || b.any (fun x => decide (x.ad = a))
def ixOut (kp : List Ad) : Option Nat → (((Int × Unit) × Unit) × (List Ad × Unit)) ⊕ ((Unit) × (List Ad × Unit))
 | some k => Sum.inl ((((k : Int), ()), ()), (kp, ()))
 | none => Sum.inr ((), (kp, ()))
theorem slices_Contains_eq {kp : List Ad} (hlen : kp.length ≤ 1048576) (a : Ad) : zq33 kp a = some (kp.any (fun x => decide (a = x)), ()) := by
 unfold zq33 slices_Index___api_Addr_api_Addr__t
 have := loop_up (step := zq34) (fun i => (((), (), (lenL kp, ()), ((i : Int), ()), ()), (kp, (a, ()), ()))) kp.length (fun i => some (ixOut kp ((firstF (fun x => decide (a = x)) (kp.drop i)).map (· + i)))) (fun rec i hi hr => ?_) (fun rec => ?_) FUEL 0 (Nat.zero_le _) (fuel_gt (by omega))
 ·rw [List.drop_zero, show (fun x => x + 0) = (id : Nat → Nat) from rfl, Option.map_id] at this
  rw [show ((0 : Nat) : Int) = 0 from rfl] at this
  rw [this, bind_s, ← firstF_any]
  simp only [id]
  cases firstF (fun x => decide (a = x)) kp with
  | none => rfl
  | some k =>
   simp only [ixOut, sumC, bind_s]
   rw [decide_eq_true (show (k : Int) ≥ 0 by omega)]
   rfl
 ·obtain ⟨e, he⟩ : ∃ e, kp[i]? = some e := ⟨_, List.getElem?_eq_getElem hi⟩
  simp only [zq34]
  rw [decide_eq_true (show (i : Int) < lenL kp by unfold lenL; omega), br_true, req_of (zq12 (by omega) (by unfold lenL; omega)), geti_at he, bind_s, firstF_at he, eqAd_eq]
  by_cases hc : a = e
  ·simp only [hc, decide_true, br_true, if_true]
   rfl
  ·simp only [hc, decide_false, br_false]
   rw [show ((i : Int) + 1) = ((i + 1 : Nat) : Int) by omega, req_of (i64ok_of (by omega) (by omega)), hr]
   rfl
 ·simp only [zq34]
  rw [decide_eq_false (show ¬ (kp.length : Int) < lenL kp by unfold lenL; omega), br_false, List.drop_of_length_le (Nat.le_refl _)]
  rfl
abbrev DT := (Bool × Int × Int × Int × Unit) × List Ad × List Ls × (Ad × Unit) × Unit
def tkOut (d : DT) : Option Nat → (((Int × Unit) × Unit) × DT) ⊕ ((Unit) × DT)
 | some k => Sum.inl ((((k : Int), ()), ()), d)
 | none => Sum.inr ((), d)
theorem taken_eq (p : Pf) {kp : List Ad} (hk : kp.length ≤ 1048576) {b : List Ls} (hb : b.length ≤ 1048576) (a : Ad) : m_lease_book__taken_t p kp b a = some (takenB kp b a, ()) := by
 unfold m_lease_book__taken_t takenB
 rw [slices_Contains_eq hk, bind_s]
 have := loop_up (step := zq1) (fun i => (((), (), (lenL b, ()), ((i : Int), ()), ()), ((p.ad.v6, p.ad.hi, p.ad.lo, p.bits, ()), kp, b, (a, ()), ()))) b.length (fun i => some (tkOut ((p.ad.v6, p.ad.hi, p.ad.lo, p.bits, ()), kp, b, (a, ()), ()) ((firstF (fun x => decide (x.ad = a)) (b.drop i)).map (· + i)))) (fun rec i hi hr => ?_) (fun rec => ?_) FUEL 0 (Nat.zero_le _) (fuel_gt (by omega))
 ·rw [List.drop_zero, show (fun x => x + 0) = (id : Nat → Nat) from rfl, Option.map_id] at this
  rw [show ((0 : Nat) : Int) = 0 from rfl] at this
  rw [this, bind_s, ← firstF_any b]
  simp only [id]
  cases kp.any (fun x => decide (a = x))
  ·rw [br_false]
   cases firstF (fun x => decide (x.ad = a)) b with
   | none => rfl
   | some k =>
    simp only [tkOut, sumC, bind_s]
    rw [decide_eq_true (show (k : Int) ≥ 0 by omega)]
    rfl
  ·rfl
 ·obtain ⟨e, he⟩ : ∃ e, b[i]? = some e := ⟨_, List.getElem?_eq_getElem hi⟩
  simp only [zq1]
  rw [decide_eq_true (show (i : Int) < lenL b by unfold lenL; omega), br_true, req_of (zq12 (by omega) (by unfold lenL; omega)), geti_at he, bind_s, firstF_at he, m_lease_book__taken_1_t, bind_s, eqAd_eq]
  by_cases hc : e.ad = a
  ·simp only [hc, decide_true, br_true, if_true]
   rfl
  ·simp only [hc, decide_false, br_false]
   rw [show ((i : Int) + 1) = ((i + 1 : Nat) : Int) by omega, req_of (i64ok_of (by omega) (by omega)), hr]
   rfl
 ·simp only [zq1]
  rw [decide_eq_false (show ¬ (b.length : Int) < lenL b by unfold lenL; omega), br_false, List.drop_of_length_le (Nat.le_refl _)]
  rfl
def foundA : Option Ad → Ad × Bool × Unit
 | some a => (a, true, ())
 | none => (⟨false, 0, 0⟩, false, ())
def freeOf (p : Pf) (kp : List Ad) (b : List Ls) : Option Ad := ((List.range (2 ^ freeBits p)).map (addrI p)).find? fun a => !takenB kp b a
theorem firstIn_eq (p : Pf) {kp : List Ad} (hk : kp.length ≤ 1048576) {b : List Ls} (hb : b.length ≤ 1048576) : ∀ xs : List Ad, firstIn p kp b xs = some (foundA (xs.find? fun a => !takenB kp b a))
 | [] => rfl
 | a :: r => by
  rw [firstIn, taken_eq p hk hb, bind_s, firstIn_eq p hk hb r, bind_s, List.find?_cons]
  cases takenB kp b a <;> rfl
theorem first_eq {p : Pf} (hp : p.In) (cp : chkP p = 0) (hn : ((wid p.ad.v6 : Nat) : Int) - p.bits ≤ 4) {kp : List Ad} (hk : kp.length ≤ 1048576) {b : List Ls} (hb : b.length ≤ 1048576) :
  m_lease_book__first_t p kp b = some (foundA (freeOf p kp b)) := by
 obtain ⟨n1, n2, n3, n4⟩ := narrow hp cp hn
 have hpp := Nat.two_pow_pos (freeBits p)
 unfold m_lease_book__first_t freeOf
 rw [prefix_Last_eq hp cp hn, bind_s]
 have := allA_eq p.ad.v6 p.ad.num (2 ^ freeBits p) n4 64 (2 ^ freeBits p - 1) (by omega) (by omega)
 rw [show 2 ^ freeBits p - 1 - (2 ^ freeBits p - 1) = 0 by omega, Nat.add_zero, ofNum_num _ hp.1.wf, show 2 ^ freeBits p - 1 + 1 = 2 ^ freeBits p by omega, ← List.range_eq_range'] at this
 show (allA (ofNum p.ad.v6 (p.ad.num + (2 ^ freeBits p - 1))) 64 p.ad).bind _ = _
 rw [this, bind_s, firstIn_eq p hk hb]
 rfl
end Go.Ma
namespace Go.Ma
open Go
theorem ascF_rank : ∀ {r : List Ls} {c : Ad}, c.In → lsIn r → ascF c r = true → ∀ z ∈ r, rank c < rank z.ad
 | [], _, _, _, _, z, hz => by cases hz
 | y :: r, c, hc, hr, h, z, hz => by
  unfold ascF at h
  simp only [Bool.and_eq_true, decide_eq_true_eq] at h
  have hy := hr y (by simp)
  have h1 := (ord_rank hc hy.1).1.1 h.1
  rcases List.mem_cons.1 hz with rfl | hz
  ·exact h1
  ·have := ascF_rank hy.1 (fun x hx => hr x (by simp [hx])) h.2 z hz
   omega
theorem asc_pair : ∀ {l : List Ls}, lsIn l → (ascL l = true ↔ l.Pairwise fun x y => rank x.ad < rank y.ad)
 | [], _ => by simp [ascL]
 | x :: r, h => by
  have hx := h x (by simp)
  have hr : lsIn r := fun y hy => h y (by simp [hy])
  rw [List.pairwise_cons, ← asc_pair hr]
  constructor
  ·intro h1
   have h1 : ascF x.ad r = true := h1
   refine ⟨ascF_rank hx.1 hr h1, ?_⟩
   cases r with
   | nil => rfl
   | cons y r =>
    unfold ascF at h1
    simp only [Bool.and_eq_true] at h1
    exact h1.2
  ·rintro ⟨h1, h2⟩
   show ascF x.ad r = true
   cases r with
   | nil => rfl
   | cons y r =>
    unfold ascF
    simp only [Bool.and_eq_true, decide_eq_true_eq]
    exact ⟨(ord_rank hx.1 (hr y (by simp)).1).1.2 (h1 y (by simp)), h2⟩
theorem live_in {l : List Ls} (h : lsIn l) (now : Int) : lsIn (live l now) := fun x hx => h x (List.mem_filter.1 hx).1
theorem live_asc {l : List Ls} (h : lsIn l) (ha : ascL l = true) (now : Int) : ascL (live l now) = true := (asc_pair (live_in h now)).2 (((asc_pair h).1 ha).filter _)
def posF (a : Ad) (b : List Ls) : Nat := (b.takeWhile fun y => decide (ordA y.ad a < 0)).length
theorem posF_le (a : Ad) (b : List Ls) : posF a b ≤ b.length := (List.takeWhile_sublist _).length_le
theorem pos_iff {a : Ad} (ha : a.In) : ∀ {b : List Ls}, lsIn b → ascL b = true → ∀ {h : Nat} {x : Ls}, b[h]? = some x → (ordA x.ad a < 0 ↔ h < posF a b)
 | [], _, _, _, _, hx => by simp at hx
 | y :: r, hb, hs, h, x, hx => by
  have hy := hb y (by simp)
  have hr : lsIn r := fun z hz => hb z (by simp [hz])
  have hrs : ascL r = true := (asc_pair hr).2 (List.pairwise_cons.1 ((asc_pair hb).1 hs)).2
  have hyr := (List.pairwise_cons.1 ((asc_pair hb).1 hs)).1
  unfold posF
  rw [List.takeWhile_cons]
  by_cases ho : ordA y.ad a < 0
  ·simp only [ho, decide_true, if_true, List.length_cons]
   cases h with
   | zero =>
    simp only [List.getElem?_cons_zero, Option.some.injEq] at hx
    subst hx
    simp [ho]
   | succ h =>
    have := pos_iff ha hr hrs (h := h) (x := x) (by simpa using hx)
    unfold posF at this
    omega
  ·simp only [ho, decide_false, Bool.false_eq_true, if_false, List.length_nil]
   cases h with
   | zero =>
    simp only [List.getElem?_cons_zero, Option.some.injEq] at hx
    subst hx
    simp [ho]
   | succ h =>
    have hx' : r[h]? = some x := by simpa using hx
    have hm := List.mem_of_getElem? hx'
    have h1 := hyr x hm
    have h2 := (ord_rank hy.1 ha).1
    have h3 := (ord_rank (hr x hm).1 ha).1
    constructor
    ·intro h4
     have := h3.1 h4
     have : ¬ rank y.ad < rank a := fun h => ho (h2.2 h)
     omega
    ·intro h4; omega
theorem half_eq (i j : Nat) (h : i + j < 9223372036854775808) : convI .i64 (aop .shr .u64 (convI .u64 ((i : Int) + (j : Int))) 1) = (((i + j) / 2 : Nat) : Int) := by
 unfold convI
 rw [wrap_u64 (by omega) (by omega)]
 have e1 : aop .shr .u64 ((i : Int) + (j : Int)) 1 = (((i + j) / 2 : Nat) : Int) := by
  simp only [aop, IntKind.bits]
  rw [show ((2 : Int) ^ (min ((1 : Int).toNat) 64)) = 2 from rfl, Int.fdiv_eq_ediv_of_nonneg _ (by omega)]
  omega
 rw [e1]
 exact wrap_i64 (by omega) (by omega)
abbrev DR := List Ad × List Ls × (Bool × Int × Int × Int × Unit) × (ByteArray × Unit) × List Ls × (Ad × Unit) × List Ls × (Bool × Int × Int × Int × Unit) × (Ad × Unit) × (Ls × Unit) × (Ls × Unit) × Unit
theorem bs_loop {kp : List Ad} {l b g : List Ls} (q q' : Bool × Int × Int × Int × Unit) (who : ByteArray) (ga a0 : Ad) (x x2 : Ls) (hx : x2.ad.In) (hb : lsIn b) (hs : ascL b = true) (hlen : b.length ≤ 1048576) (n : Int) :
  ∀ (N i j : Nat), j - i < N → i ≤ posF x2.ad b → posF x2.ad b ≤ j → j ≤ b.length →
   loopN zq23 N (((), (), (), (n, ()), ((i : Int), ()), ((j : Int), ()), ()), ((kp, l, q, (who, ()), g, (ga, ()), b, q', (a0, ()), (x, ()), (x2, ()), ()) : DR)) =
    some (((), (), (), (n, ()), (((posF x2.ad b : Nat) : Int), ()), ()), (kp, l, q, (who, ()), g, (ga, ()), b, q', (a0, ()), (x, ()), (x2, ()), ()))
 | 0, _, _, h, _, _, _ => by omega
 | N + 1, i, j, hN, h1, h2, h3 => by
  rw [loopN_succ]
  simp only [zq23]
  obtain ⟨q1, q2, q3, q4, _⟩ := q
  obtain ⟨r1, r2, r3, r4, _⟩ := q'
  by_cases hij : i < j
  ·have hh : (i + j) / 2 < b.length := by omega
   obtain ⟨e, he⟩ : ∃ e, b[(i + j) / 2]? = some e := ⟨_, List.getElem?_eq_getElem hh⟩
   have hp := pos_iff hx hb hs he
   rw [decide_eq_true (show (i : Int) < (j : Int) by omega), br_true, req_of (i64ok_of (by omega) (by omega))]
   simp only [half_eq i j (by omega)]
   rw [req_of (zq12 (by omega) (by unfold lenL; omega)), geti_at he, bind_s, lease_Raw_2_t, addr_Order_eq, bind_s, bind_s]
   by_cases ho : ordA e.ad x2.ad < 0
   ·have := hp.1 ho
    simp only [ho, decide_true, br_true]
    rw [show (((i + j) / 2 : Nat) : Int) + 1 = (((i + j) / 2 + 1 : Nat) : Int) by omega, req_of (i64ok_of (by omega) (by omega))]
    exact bs_loop _ _ who ga a0 x x2 hx hb hs hlen n N ((i + j) / 2 + 1) j (by omega) (by omega) h2 h3
   ·have : ¬ (i + j) / 2 < posF x2.ad b := fun h => ho (hp.2 h)
    simp only [ho, decide_false, br_false]
    exact bs_loop _ _ who ga a0 x x2 hx hb hs hlen n N i ((i + j) / 2) (by omega) h1 (by omega) (by omega)
  ·have : posF x2.ad b = i := by omega
   rw [decide_eq_false (show ¬ (i : Int) < (j : Int) by omega), br_false, this]
theorem bs_same : zq22 = zq23 := rfl
abbrev DW := List Ad × List Ls × (Bool × Int × Int × Int × Unit) × (ByteArray × Unit) × List Ls × (Ad × Unit) × List Ls × (Bool × Int × Int × Int × Unit) × Unit
def rwOut (d : DW) : Option Nat → (((Int × Unit) × Unit) × DW) ⊕ ((Unit) × DW)
 | some k => Sum.inl ((((k : Int), ()), ()), d)
 | none => Sum.inr ((), d)
theorem rw_loop (p : Pf) (kp : List Ad) (l : List Ls) {b : List Ls} (hlen : b.length ≤ 1048576) (who : ByteArray) :
  loopN zq27 FUEL (((), (), (lenL b, ()), (0, ()), ()), (kp, l, (p.ad.v6, p.ad.hi, p.ad.lo, p.bits, ()), (who, ()), ([] : List Ls), ((⟨false, 0, 0⟩ : Ad), ()), b, (p.ad.v6, p.ad.hi, p.ad.lo, p.bits, ()), ())) =
   some (rwOut (kp, l, (p.ad.v6, p.ad.hi, p.ad.lo, p.bits, ()), (who, ()), ([] : List Ls), ((⟨false, 0, 0⟩ : Ad), ()), b, (p.ad.v6, p.ad.hi, p.ad.lo, p.bits, ()), ()) (firstF (whoP who) b)) := by
 have := loop_up (step := zq27) (fun i => (((), (), (lenL b, ()), ((i : Int), ()), ()), ((kp, l, (p.ad.v6, p.ad.hi, p.ad.lo, p.bits, ()), (who, ()), ([] : List Ls), ((⟨false, 0, 0⟩ : Ad), ()), b, (p.ad.v6, p.ad.hi, p.ad.lo, p.bits, ()), ()) : DW))) b.length
  (fun i => some (rwOut (kp, l, (p.ad.v6, p.ad.hi, p.ad.lo, p.bits, ()), (who, ()), ([] : List Ls), ((⟨false, 0, 0⟩ : Ad), ()), b, (p.ad.v6, p.ad.hi, p.ad.lo, p.bits, ()), ()) ((firstF (whoP who) (b.drop i)).map (· + i)))) (fun rec i hi hr => ?_) (fun rec => ?_) FUEL 0 (Nat.zero_le _) (fuel_gt (by omega))
 ·rw [List.drop_zero, show (fun x => x + 0) = (id : Nat → Nat) from rfl, Option.map_id] at this
  exact this
 ·obtain ⟨e, he⟩ : ∃ e, b[i]? = some e := ⟨_, List.getElem?_eq_getElem hi⟩
  simp only [zq27]
  rw [decide_eq_true (show (i : Int) < lenL b by unfold lenL; omega), br_true, req_of (zq12 (by omega) (by unfold lenL; omega)), geti_at he, bind_s, lease_Raw_1_t, bind_s, firstF_at he, strcmp_eql]
  unfold whoP
  by_cases hc : e.who = who
  ·simp only [hc, decide_true, br_true, if_true]
   rfl
  ·simp only [hc, decide_false, br_false]
   rw [show ((i : Int) + 1) = ((i + 1 : Nat) : Int) by omega, req_of (i64ok_of (by omega) (by omega)), hr]
   rfl
 ·simp only [zq27]
  rw [decide_eq_false (show ¬ (b.length : Int) < lenL b by unfold lenL; omega), br_false, List.drop_of_length_le (Nat.le_refl _)]
  rfl
def insAt (b : List Ls) (x : Ls) : List Ls := b.take (posF x.ad b) ++ x :: b.drop (posF x.ad b)
def keepOn (b : List Ls) (k : Nat) (u : Int) : List Ls × Ad × Bool × Unit := match b[k]? with | some e => (b.set k ⟨e.ad, e.who, u⟩, e.ad, true, ()) | none => ([], ⟨false, 0, 0⟩, false, ())
def putNew (b : List Ls) (who : ByteArray) (u : Int) : Option Ad → List Ls × Ad × Bool × Unit
 | some a => (insAt b ⟨a, who, u⟩, a, true, ())
 | none => ([], ⟨false, 0, 0⟩, false, ())
def rawOf (p : Pf) (kp : List Ad) (b : List Ls) (who : ByteArray) (u : Int) : List Ls × Ad × Bool × Unit :=
 match firstF (whoP who) b with
 | some k => keepOn b k u
 | none => putNew b who u (freeOf p kp b)
theorem addrI_in {p : Pf} (n4 : p.ad.num + 2 ^ freeBits p ≤ 2 ^ wid p.ad.v6) {i : Nat} (h : i < 2 ^ freeBits p) : (addrI p i).In ∧ chkA (addrI p i) = 0 := ⟨ofNum_in (by omega), ofNum_chk (by omega)⟩
theorem freeOf_some {p : Pf} {kp : List Ad} {b : List Ls} {a : Ad} (h : freeOf p kp b = some a) : (∃ i, i < 2 ^ freeBits p ∧ a = addrI p i) ∧ takenB kp b a = false := by
 unfold freeOf at h
 have h1 := List.mem_of_find?_eq_some h
 have h2 := List.find?_some h
 obtain ⟨i, hi, rfl⟩ := List.mem_map.1 h1
 exact ⟨⟨i, List.mem_range.1 hi, rfl⟩, by simpa using h2⟩
theorem lease_Raw_eq {p : Pf} (hp : p.In) {kp : List Ad} {l : List Ls} (h : lsIn l) {now ttl : Int} (hc : chkPool p kp = 0) (ha : allC l now = 0) (hu : -9223372036854775808 ≤ now + ttl) (hu' : now + ttl < 9223372036854775808) (who : ByteArray) :
  lease_Raw_t p kp l who now ttl = some (rawOf p kp (live l now) who (now + ttl)) := by
 obtain ⟨a1, a2, a3, a4⟩ := allC_ok ha
 obtain ⟨c1, c2, c3⟩ := chkPool_ok hc
 have hll := live_len l now
 unfold lease_Raw_t
 rw [lease_Live_eq (by omega) now, bind_s]
 have hbs := live_asc h a3 now
 have hbi := live_in h now
 generalize live l now = b at hll hbs hbi ⊢
 obtain ⟨n1, n2, n3, n4⟩ := narrow hp c1 c2
 rw [rw_loop p kp l (show b.length ≤ 1048576 by omega) who, bind_s]
 unfold rawOf
 have hin : ∀ a, freeOf p kp b = some a → a.In := fun a hf => by
  obtain ⟨⟨i, hi, rfl⟩, _⟩ := freeOf_some hf
  exact (addrI_in n4 hi).1
 have hf := first_eq hp c1 c2 (kp := kp) (by omega) (b := b) (by omega)
 have hfu : b.length - 0 < FUEL := by have : FUEL = 18446744073709551616 := rfl; omega
 have hroom : ∀ a : Ad, (decide ((0 : Int) ≤ ((posF a b : Nat) : Int)) && decide (((posF a b : Nat) : Int) ≤ lenL b) && room (lenL b) 1) = true := fun a => by
  have := posF_le a b
  rw [decide_eq_true (show (0 : Int) ≤ ((posF a b : Nat) : Int) by omega), decide_eq_true (show ((posF a b : Nat) : Int) ≤ lenL b by unfold lenL; omega), room_of (zq30 _) (by omega) (by unfold lenL; omega)]
  rfl
 have hpick : ∀ (a : Ad) (x : Ls), x.ad = a → (br (decide (((posF a b : Nat) : Int) < lenL b)) (req (inRange ((posF a b : Nat) : Int) (lenL b)) ((geti b ((posF a b : Nat) : Int)).bind fun p6 => (lease_Raw_2_t p6 x).bind fun y7 => some (((posF a b : Nat) : Int), decide (y7.1 = 0), ()))) (some (((posF a b : Nat) : Int), false, ()))) =
   some (((posF a b : Nat) : Int), (br (decide (((posF a b : Nat) : Int) < lenL b)) ((geti b ((posF a b : Nat) : Int)).bind fun p6 => (lease_Raw_2_t p6 x).bind fun y7 => some (decide (y7.1 = 0))) (some false)).getD false, ()) := fun a x hx => by
  by_cases hlt : posF a b < b.length
  ·obtain ⟨e, he⟩ : ∃ e, b[posF a b]? = some e := ⟨_, List.getElem?_eq_getElem hlt⟩
   rw [decide_eq_true (show ((posF a b : Nat) : Int) < lenL b by unfold lenL; omega), br_true, req_of (zq12 (by omega) (by unfold lenL; omega)), geti_at he, bind_s, lease_Raw_2_t, addr_Order_eq, bind_s, bind_s, br_true, bind_s, lease_Raw_2_t, addr_Order_eq, bind_s, bind_s]
   rfl
  ·rw [decide_eq_false (show ¬ ((posF a b : Nat) : Int) < lenL b by unfold lenL; omega), br_false, br_false]
   rfl
 cases hfw : firstF (whoP who) b with
 | some k =>
  have hk := firstF_lt hfw
  obtain ⟨e, he⟩ : ∃ e, b[k]? = some e := ⟨_, List.getElem?_eq_getElem hk⟩
  have r1 : inRange (k : Int) (lenL b) = true := zq12 (by omega) (by unfold lenL; omega)
  have r2 : inRange (k : Int) (lenL (seti b (k : Int) (⟨e.ad, e.who, now + ttl⟩ : Ls))) = true := zq12 (by omega) (by unfold lenL seti; simp only [List.length_set]; omega)
  have hg : geti (seti b (k : Int) (⟨e.ad, e.who, now + ttl⟩ : Ls)) (k : Int) = some ⟨e.ad, e.who, now + ttl⟩ := by
   rw [geti_nat]
   simp [seti, hk]
  simp only [rwOut, sumC]
  rw [decide_eq_true (show (k : Int) ≥ 0 by omega), br_true, req_of (i64ok_of hu hu')]
  simp only [r1, req_true, geti_at he, bind_s, r2, hg]
  unfold keepOn
  rw [he]
  simp [seti]
 | none =>
  simp only [rwOut, sumC]
  show (m_lease_book__first_t p kp b).bind _ = _
  rw [hf, bind_s]
  cases hfo : freeOf p kp b with
  | none => rfl
  | some a =>
   simp only [foundA, Bool.not_true, br_false]
   rw [req_of (i64ok_of hu hu')]
   have hl := bs_loop (kp := kp) (l := l) (g := ([] : List Ls)) (p.ad.v6, p.ad.hi, p.ad.lo, p.bits, ()) (p.ad.v6, p.ad.hi, p.ad.lo, p.bits, ()) who ⟨false, 0, 0⟩ a ⟨a, who, now + ttl⟩ ⟨a, who, now + ttl⟩ (hin a hfo) hbi hbs (by omega) (lenL b) FUEL 0 b.length hfu (Nat.zero_le _) (posF_le _ _) (Nat.le_refl _)
   rw [show ((0 : Nat) : Int) = 0 from rfl, show ((b.length : Nat) : Int) = lenL b from rfl] at hl
   rw [bs_same, hl, bind_s, hpick a ⟨a, who, now + ttl⟩ rfl, bind_s]
   simp only [hroom a, req_true, dup_eq, both_self]
   unfold putNew insAt insL
   simp
def grantOf (p : Pf) (kp : List Ad) (l : List Ls) (who : ByteArray) (now ttl : Int) : List Ls × Ad × Int × Unit :=
 if chkOf p kp l now ≠ 0 then ([], ⟨false, 0, 0⟩, chkOf p kp l now, ()) else if whoOk who = false then ([], ⟨false, 0, 0⟩, 1, ()) else if betw ttl 1 500 = false then ([], ⟨false, 0, 0⟩, 3, ())
 else if (rawOf p kp (live l now) who (now + ttl)).2.2.1 = false then ([], ⟨false, 0, 0⟩, 8, ()) else ((rawOf p kp (live l now) who (now + ttl)).1, (rawOf p kp (live l now) who (now + ttl)).2.1, 0, ())
theorem chkOf_ok {p : Pf} {kp : List Ad} {l : List Ls} {now : Int} (h : chkOf p kp l now = 0) : chkPool p kp = 0 ∧ allC l now = 0 ∧ ofF p [] l = 0 := by
 unfold chkOf at h
 split at h
 ·rename_i h1; exact absurd h h1
 split at h
 ·rename_i h1; exact absurd h h1
 ·rename_i h1 h2
  exact ⟨Decidable.not_not.1 h1, Decidable.not_not.1 h2, h⟩
end Go.Ma
namespace Go.Ma
open Go
def lsbL (n w : Nat) : List UInt8 := (List.range w).map (bitV n)
theorem lsb_rev (n w : Nat) : (bitsTo n (w - 1) w).reverse = lsbL n w := by
 apply List.ext_getElem?
 intro i
 by_cases hi : i < w
 ·rw [List.getElem?_reverse (by rw [bitsTo_length]; exact hi), bitsTo_length, bitsTo_get, if_pos (by omega)]
  simp only [lsbL, List.getElem?_map, List.getElem?_range hi, Option.map_some]
  rw [show w - 1 - (w - 1 - i) = i by omega]
 ·rw [List.getElem?_eq_none (by simp [bitsTo_length]; omega), List.getElem?_eq_none (by simp [lsbL]; omega)]
theorem lsb_cons (n w : Nat) : lsbL n (w + 1) = bitV n 0 :: lsbL (n / 2) w := by
 unfold lsbL
 rw [List.range_succ_eq_map, List.map_cons, List.map_map]
 congr 1
 apply List.map_congr_left
 intro i _
 simp only [Function.comp]
 exact bitV_congr (by rw [Nat.testBit_succ])
theorem bitV_zero (n : Nat) : bitV n 0 = if n % 2 = 1 then 49 else 48 := by
 unfold bitV
 rw [Nat.testBit_zero]
 by_cases h : n % 2 = 1 <;> simp [h]
theorem incR_eq : ∀ (w n : Nat), n < 2 ^ w → incR (lsbL n w) = if n + 1 < 2 ^ w then some (lsbL (n + 1) w) else none
 | 0, n, h => by
  have : n = 0 := by simpa using h
  subst this
  rfl
 | w + 1, n, h => by
  have hp : 2 ^ (w + 1) = 2 * 2 ^ w := by rw [Nat.pow_succ, Nat.mul_comm]
  rw [lsb_cons, lsb_cons, incR, bitV_zero, bitV_zero]
  by_cases hodd : n % 2 = 1
  ·have h1 : (n + 1) / 2 = n / 2 + 1 := by omega
   have h2 : ¬ (n + 1) % 2 = 1 := by omega
   rw [if_pos hodd, if_neg h2, if_neg (by decide), incR_eq w (n / 2) (by omega), h1]
   by_cases h3 : n / 2 + 1 < 2 ^ w
   ·rw [if_pos h3, if_pos (by omega)]; rfl
   ·rw [if_neg h3, if_neg (by omega)]; rfl
  ·have h1 : (n + 1) / 2 = n / 2 := by omega
   have h2 : (n + 1) % 2 = 1 := by omega
   rw [if_neg hodd, if_pos h2, if_pos rfl, if_pos (by omega), h1]
theorem div_step (m j : Nat) : m / 2 ^ j = 2 * (m / 2 ^ (j + 1)) + (if m.testBit j then 1 else 0) := by
 have h1 : m / 2 ^ (j + 1) = m / 2 ^ j / 2 := by rw [Nat.pow_succ, Nat.div_div_eq_div_mul]
 rw [h1, Nat.testBit_eq_decide_div_mod_eq]
 by_cases h : m / 2 ^ j % 2 = 1 <;> simp only [h, decide_true, decide_false, if_true, if_false, Bool.false_eq_true] <;> omega
theorem bit_val (n i : Nat) : convI .u64 (aop .sub .u8 ((bitV n i).toNat : Int) 48) = ((if n.testBit i then 1 else 0 : Nat) : Int) := by
 unfold bitV
 cases n.testBit i <;> decide
theorem dbl_step (x b r : Nat) (h : r = 2 * x + b) (hr : r < 18446744073709551616) : aop .add .u64 (aop .mul .u64 2 (x : Int)) (b : Int) = (r : Int) := by
 simp only [aop, wrap_u64_mod]
 omega
def accN (v : Bool) (n k : Nat) : Ad := ⟨v, ((n / 2 ^ (max k 64) : Nat) : Int), ((n % 18446744073709551616 / 2 ^ k : Nat) : Int)⟩
theorem acc_step {v : Bool} {n k : Nat} (hn : n < 2 ^ 128) : accN v n k = if k + 1 > 64 then (⟨v, aop .add .u64 (aop .mul .u64 2 (accN v n (k + 1)).hi) ((if n.testBit k then 1 else 0 : Nat) : Int), (accN v n (k + 1)).lo⟩ : Ad)
  else ⟨v, (accN v n (k + 1)).hi, aop .add .u64 (aop .mul .u64 2 (accN v n (k + 1)).lo) ((if n.testBit k then 1 else 0 : Nat) : Int)⟩ := by
 by_cases hk : k + 1 > 64
 ·rw [if_pos hk]
  unfold accN
  simp only
  have e1 : max k 64 = k := by omega
  have e2 : max (k + 1) 64 = k + 1 := by omega
  rw [e1, e2]
  have hlt : n / 2 ^ k < 18446744073709551616 := by
   rw [Nat.div_lt_iff_lt_mul (Nat.two_pow_pos k)]
   have : 2 ^ 64 ≤ 2 ^ k := Nat.pow_le_pow_right (by omega) (by omega)
   calc n < 2 ^ 128 := hn
    _ = 18446744073709551616 * 2 ^ 64 := by decide
    _ ≤ _ := Nat.mul_le_mul_left _ this
  rw [dbl_step _ _ _ (div_step n k) hlt]
  have z : ∀ q, 64 ≤ q → n % 18446744073709551616 / 2 ^ q = 0 := fun q hq => by
   apply Nat.div_eq_of_lt
   have : 2 ^ 64 ≤ 2 ^ q := Nat.pow_le_pow_right (by omega) hq
   omega
  rw [z k (by omega), z (k + 1) (by omega)]
 ·rw [if_neg hk]
  unfold accN
  simp only
  have e1 : max k 64 = 64 := by omega
  have e2 : max (k + 1) 64 = 64 := by omega
  rw [e1, e2]
  have ht : n.testBit k = (n % 18446744073709551616).testBit k := by
   rw [show (18446744073709551616 : Nat) = 2 ^ 64 from rfl, Nat.testBit_mod_two_pow]
   simp
   omega
  have hlt : n % 18446744073709551616 / 2 ^ k < 18446744073709551616 := Nat.lt_of_le_of_lt (Nat.div_le_self _ _) (Nat.mod_lt _ (by omega))
  rw [ht, dbl_step _ _ _ (div_step (n % 18446744073709551616) k) hlt]
theorem R_AddrOf_eq {v : Bool} {n : Nat} (h : n < 2 ^ wid v) : R_AddrOf_t (ofBytes (bitsTo n (wid v - 1) (wid v))) = some (ofNum v n, ()) := by
 have hw := wid_pow v
 have hn : n < 2 ^ 128 := Nat.lt_of_lt_of_le h (Nat.le_trans hw (by decide))
 have hlen : (ofBytes (bitsTo n (wid v - 1) (wid v))).size = wid v := by rw [ofBytes_size, bitsTo_length]
 have hwl := wid_le v
 unfold R_AddrOf_t
 have hv : decide (lenS (ofBytes (bitsTo n (wid v - 1) (wid v))) = 128) = v := by
  unfold lenS
  rw [hlen]
  cases v <;> decide
 rw [hv]
 generalize hs : ofBytes (bitsTo n (wid v - 1) (wid v)) = s at hlen ⊢
 have := loop_up (step := R_AddrOf_L3) (fun i => (((s, ()), (), (), ((i : Int), ()), ()), (((⟨false, 0, 0⟩ : Ad), ()), (accN v n (wid v - i), ()), ()))) (wid v) (fun i => some (((), (), ()), (((⟨false, 0, 0⟩ : Ad), ()), (ofNum v n, ()), ()))) (fun rec i hi hr => ?_) (fun rec => ?_) FUEL 0 (Nat.zero_le _) (fuel_gt (by omega))
 ·have h0 : accN v n (wid v - 0) = ⟨v, 0, 0⟩ := by
   unfold accN
   have q1 : n / 2 ^ (max (wid v - 0) 64) = 0 := by
    apply Nat.div_eq_of_lt
    exact Nat.lt_of_lt_of_le h (Nat.pow_le_pow_right (by omega) (by omega))
   have q2 : n % 18446744073709551616 / 2 ^ (wid v - 0) = 0 := by
    apply Nat.div_eq_of_lt
    exact Nat.lt_of_le_of_lt (Nat.mod_le _ _) h
   rw [q1, q2]
   rfl
  rw [h0] at this
  rw [show ((0 : Nat) : Int) = 0 from rfl] at this
  rw [this, bind_s]
 ·have hb : s.data.toList[i]? = some (bitV n (wid v - 1 - i)) := by
   rw [← hs, ofBytes_list, bitsTo_get, if_pos hi]
  simp only [R_AddrOf_L3]
  rw [decide_eq_true (show (i : Int) < lenS s by unfold lenS; omega), br_true, req_of (zq12 (by omega) (by unfold lenS; omega)), req_of (i64ok_of (by unfold lenS; omega) (by unfold lenS; omega)), byteAt_eq hb, bit_val]
  have hst := acc_step (v := v) (k := wid v - (i + 1)) hn
  rw [show wid v - (i + 1) + 1 = wid v - i by omega, show wid v - (i + 1) = wid v - 1 - i by omega] at hst
  rw [show ((i : Int) + 1) = ((i + 1 : Nat) : Int) by omega, show wid v - (i + 1) = wid v - 1 - i by omega] at *
  by_cases hk : wid v - i > 64
  ·rw [if_pos hk] at hst
   rw [decide_eq_true (show lenS s - (i : Int) > 64 by unfold lenS; omega), br_true, req_of (i64ok_of (by omega) (by omega))]
   rw [show (accN v n (wid v - i)).v6 = v from rfl, ← hst, hr]
  ·rw [if_neg hk] at hst
   rw [decide_eq_false (show ¬ lenS s - (i : Int) > 64 by unfold lenS; omega), br_false, req_of (i64ok_of (by omega) (by omega))]
   rw [show (accN v n (wid v - i)).v6 = v from rfl, ← hst, hr]
 ·simp only [R_AddrOf_L3]
  rw [decide_eq_false (show ¬ ((wid v : Nat) : Int) < lenS s by unfold lenS; omega), br_false]
  have : accN v n (wid v - wid v) = ofNum v n := by
   unfold accN ofNum
   rw [Nat.sub_self, show max 0 64 = 64 from rfl, show (2 : Nat) ^ 64 = 18446744073709551616 from rfl, Nat.pow_zero, Nat.div_one]
  rw [this]
theorem R_NextOf_eq {v : Bool} {n : Nat} (h : n < 2 ^ wid v) : R_NextOf_t (ofNum v n) = some (if n + 1 < 2 ^ wid v then (ofNum v (n + 1), true, ()) else (⟨false, 0, 0⟩, false, ())) := by
 have hin := ofNum_in h
 have hwl := wid_le v
 unfold R_NextOf_t
 rw [R_Bits_eq hin, bind_s, bitsA_eq hin.wf (ofNum_chk h), num_ofNum, show (ofNum v n).v6 = v from rfl]
 rw [req_of (Nat.ble_eq_true_of_le (by rw [ofBytes_size, bitsTo_length]; omega)), ofBytes_list, lsb_rev, incR_eq _ _ h]
 by_cases h1 : n + 1 < 2 ^ wid v
 ·rw [if_pos h1, if_pos h1]
  simp only
  have : (⟨(lsbL (n + 1) (wid v)).reverse.toArray⟩ : ByteArray) = ofBytes (bitsTo (n + 1) (wid v - 1) (wid v)) := by
   rw [← lsb_rev, List.reverse_reverse]
   rfl
  rw [this, R_AddrOf_eq h1, bind_s]
 ·rw [if_neg h1, if_neg h1]
end Go.Ma
namespace Go.Ma
open Go
theorem R_hasAddr_eq {kp : List Ad} (hlen : kp.length ≤ 1048576) (a : Ad) : R_hasAddr_t kp a = some (kp.any (fun x => decide (a = x)), ()) := by
 unfold R_hasAddr_t
 have := loop_up (step := R_hasAddr_L2) (fun i => (((), (), ((i : Int), ()), ()), (kp, (a, ()), ()))) kp.length (fun i => some (if (kp.drop i).any (fun x => decide (a = x)) = true then Sum.inl (((true, ()), ()), (kp, ())) else Sum.inr ((), (kp, ())))) (fun rec i hi hr => ?_) (fun rec => ?_) FUEL 0 (Nat.zero_le _) (fuel_gt (by omega))
 ·rw [show ((0 : Nat) : Int) = 0 from rfl, List.drop_zero] at this
  rw [this, bind_s]
  cases kp.any (fun x => decide (a = x)) <;> rfl
 ·obtain ⟨e, he⟩ : ∃ e, kp[i]? = some e := ⟨_, List.getElem?_eq_getElem hi⟩
  simp only [R_hasAddr_L2]
  rw [decide_eq_true (show (i : Int) < lenL kp by unfold lenL; omega), br_true, req_of (zq12 (by omega) (by unfold lenL; omega)), geti_at he, bind_s, eqAd_eq, drop_cons he, List.any_cons]
  by_cases hc : e = a
  ·subst hc
   simp only [decide_true, br_true, Bool.true_or, if_true]
  ·have hc' : ¬ a = e := fun h => hc h.symm
   simp only [hc, hc', decide_false, br_false, Bool.false_or]
   rw [show ((i : Int) + 1) = ((i + 1 : Nat) : Int) by omega, req_of (i64ok_of (by omega) (by omega)), hr]
 ·simp only [R_hasAddr_L2]
  rw [decide_eq_false (show ¬ (kp.length : Int) < lenL kp by unfold lenL; omega), br_false, List.drop_of_length_le (Nat.le_refl _)]
  rfl
abbrev Q4 := Bool × Int × Int × Int × Unit
theorem leased_loop {b : List Ls} (hlen : b.length ≤ 1048576) (who : ByteArray) (now ttl n : Int) (kp : List Ad) (l g : List Ls) (q : Q4) (a0 a : Ad) :
  loopN R_GrantOf_L13 FUEL (((who, ()), (now, ()), (ttl, ()), (), (), (), (), (), (n, ()), (false, ()), (0, ()), ()), (kp, l, q, (a0, ()), b, g, (a, ()), ())) =
   some (((who, ()), (now, ()), (ttl, ()), (), (), (), (), (), (n, ()), (b.any (fun x => decide (x.ad = a)), ()), ()), (kp, l, q, (a0, ()), b, g, (a, ()), ())) := by
 obtain ⟨q1, q2, q3, q4, _⟩ := q
 have := loop_up (step := R_GrantOf_L13) (fun i => (((who, ()), (now, ()), (ttl, ()), (), (), (), (), (), (n, ()), ((b.take i).any (fun x => decide (x.ad = a)), ()), ((i : Int), ()), ()), (kp, l, ((q1, q2, q3, q4, ()) : Q4), (a0, ()), b, g, (a, ()), ()))) b.length
  (fun i => some (((who, ()), (now, ()), (ttl, ()), (), (), (), (), (), (n, ()), (b.any (fun x => decide (x.ad = a)), ()), ()), (kp, l, ((q1, q2, q3, q4, ()) : Q4), (a0, ()), b, g, (a, ()), ()))) (fun rec i hi hr => ?_) (fun rec => ?_) FUEL 0 (Nat.zero_le _) (fuel_gt (by omega))
 ·exact this
 ·obtain ⟨e, he⟩ : ∃ e, b[i]? = some e := ⟨_, List.getElem?_eq_getElem hi⟩
  have r1 : inRange (i : Int) (lenL b) = true := zq12 (by omega) (by unfold lenL; omega)
  simp only [R_GrantOf_L13]
  rw [decide_eq_true (show (i : Int) < lenL b by unfold lenL; omega), br_true]
  simp only [r1, req_true, geti_at he, bind_s, br_ss, eqAd_eq]
  have : (b.take (i + 1)).any (fun x => decide (x.ad = a)) = bif (b.take i).any (fun x => decide (x.ad = a)) then true else decide (e.ad = a) := by
   rw [take_at he, List.any_append]
   simp only [List.any_cons, List.any_nil, Bool.or_false]
   cases (b.take i).any (fun x => decide (x.ad = a)) <;> rfl
  rw [← this, show ((i : Int) + 1) = ((i + 1 : Nat) : Int) by omega, req_of (i64ok_of (by omega) (by omega)), hr]
 ·simp only [R_GrantOf_L13]
  rw [decide_eq_false (show ¬ (b.length : Int) < lenL b by unfold lenL; omega), br_false, List.take_of_length_le (Nat.le_refl _)]
def insSt (b : List Ls) (x : Ls) (k : Nat) : Bool × List Ls := if k ≤ posF x.ad b then (false, b.take k) else (true, b.take (posF x.ad b) ++ x :: (b.drop (posF x.ad b)).take (k - posF x.ad b))
theorem ins_loop {b : List Ls} (hb : lsIn b) (hc : ∀ y ∈ b, chkLs y = 0) (hs : ascL b = true) (hlen : b.length ≤ 20) {x : Ls} (hx : x.ad.In) (cx : chkA x.ad = 0) (hne : b.any (fun y => decide (y.ad = x.ad)) = false) (kp : List Ad) (l : List Ls) (a0 : Ad) :
  loopN R_GrantOf_L20 FUEL (((), (), (), (), (), (false, ()), (0, ()), ()), (kp, l, (a0, ()), b, ([] : List Ls), (x.ad, ()), (x, ()), ())) =
   some (((), (), (), (), ((insSt b x b.length).1, ()), ()), (kp, l, (a0, ()), (insSt b x b.length).2, (x.ad, ()), (x, ()), ())) := by
 have hp := posF_le x.ad b
 have hlen2 : ∀ k, k ≤ b.length → (insSt b x k).2.length ≤ 21 := fun k hk => by
  unfold insSt
  split
  ·simp; omega
  ·simp; omega
 have := loop_up (step := R_GrantOf_L20) (fun i => (((), (), (), (), (), ((insSt b x i).1, ()), ((i : Int), ()), ()), (kp, l, (a0, ()), b, (insSt b x i).2, (x.ad, ()), (x, ()), ()))) b.length
  (fun i => some (((), (), (), (), ((insSt b x b.length).1, ()), ()), (kp, l, (a0, ()), (insSt b x b.length).2, (x.ad, ()), (x, ()), ()))) (fun rec i hi hr => ?_) (fun rec => ?_) FUEL 0 (Nat.zero_le _) (fuel_gt (by omega))
 ·have h0 : insSt b x 0 = (false, []) := by unfold insSt; rw [if_pos (Nat.zero_le _)]; rfl
  rw [h0] at this
  exact this
 ·obtain ⟨e, he⟩ : ∃ e, b[i]? = some e := ⟨_, List.getElem?_eq_getElem hi⟩
  have hm := List.mem_of_getElem? he
  have r1 : inRange (i : Int) (lenL b) = true := zq12 (by omega) (by unfold lenL; omega)
  have hl2 := hlen2 i (by omega)
  have hpi := pos_iff hx hb hs he
  have hah : aheadA x.ad e.ad = !decide (ordA e.ad x.ad < 0) := by
   have hne2 : e.ad ≠ x.ad := fun h => by
    have := List.any_eq_false.1 hne e hm
    simp [h] at this
   have h1 := ord_rank (hb e hm).1 hx
   rw [ahead_rank hx (hb e hm).1]
   have h2 : rank e.ad ≠ rank x.ad := fun h => hne2 (rank_inj (hb e hm).1 hx h)
   by_cases h3 : ordA e.ad x.ad < 0
   ·have := h1.1.1 h3
    rw [decide_eq_true h3, decide_eq_false (by omega)]
    rfl
   ·have : ¬ rank e.ad < rank x.ad := fun h => h3 (h1.1.2 h)
    rw [decide_eq_false h3, decide_eq_true (by omega)]
    rfl
  simp only [R_GrantOf_L20]
  rw [decide_eq_true (show (i : Int) < lenL b by unfold lenL; omega), br_true]
  simp only [r1, req_true, geti_at he, bind_s, R_IsAhead_eq hx (hb e hm).1 cx (chkLs_ad (hc e hm)).1, hah]
  have i1 : i64ok ((i : Int) + 1) = true := i64ok_of (by omega) (by omega)
  have rm : ∀ (y : Ls) (z : List Ls), z.length ≤ 22 → room (lenL z) (lenL ([y] : List Ls)) = true := fun y z hz => room_of (zq30 _) (zq30 _) (by unfold lenL; simp only [List.length_cons, List.length_nil]; omega)
  rw [show ((i : Int) + 1) = ((i + 1 : Nat) : Int) by omega] at i1 ⊢
  have rm1 := rm x (insSt b x i).2 (by omega)
  have rm2 := rm e (insSt b x i).2 (by omega)
  have rm3 := rm e ((insSt b x i).2 ++ [x]) (by simp; omega)
  simp only [i1, rm1, rm2, rm3, req_true]
  by_cases h1 : i ≤ posF x.ad b
  ·have e1 : insSt b x i = (false, b.take i) := by unfold insSt; rw [if_pos h1]
   rw [e1]
   simp only [Bool.not_false, br_true, bind_s]
   by_cases h2 : i < posF x.ad b
   ·have e2 : insSt b x (i + 1) = (false, b.take (i + 1)) := by unfold insSt; rw [if_pos (by omega)]
    rw [decide_eq_true (hpi.2 h2), Bool.not_true, br_false, ← take_at he]
    rw [e2] at hr
    exact hr
   ·have hpe : posF x.ad b = i := by omega
    have e2 : insSt b x (i + 1) = (true, (b.take i ++ [x]) ++ [e]) := by
     unfold insSt
     rw [if_neg (by omega), hpe, show i + 1 - i = 1 by omega, drop_cons he]
     simp
    rw [decide_eq_false (fun h => h2 (hpi.1 h)), Bool.not_false, br_true]
    rw [e2] at hr
    exact hr
  ·have e1 : insSt b x i = (true, b.take (posF x.ad b) ++ x :: (b.drop (posF x.ad b)).take (i - posF x.ad b)) := by unfold insSt; rw [if_neg h1]
   have e2 : insSt b x (i + 1) = (true, (b.take (posF x.ad b) ++ x :: (b.drop (posF x.ad b)).take (i - posF x.ad b)) ++ [e]) := by
    unfold insSt
    rw [if_neg (by omega), show i + 1 - posF x.ad b = i - posF x.ad b + 1 by omega]
    have : (b.drop (posF x.ad b))[i - posF x.ad b]? = some e := by
     rw [List.getElem?_drop, show posF x.ad b + (i - posF x.ad b) = i by omega, he]
    rw [take_at this]
    simp
   rw [e2] at hr
   rw [e1]
   simp only [Bool.not_true, br_false, bind_s]
   exact hr
 ·simp only [R_GrantOf_L20]
  rw [decide_eq_false (show ¬ (b.length : Int) < lenL b by unfold lenL; omega), br_false]
theorem ins_done (b : List Ls) (x : Ls) : (bif (insSt b x b.length).1 then (insSt b x b.length).2 else (insSt b x b.length).2 ++ [x]) = insAt b x := by
 have := posF_le x.ad b
 unfold insSt insAt
 by_cases h : b.length ≤ posF x.ad b
 ·have e : posF x.ad b = b.length := by omega
  rw [if_pos h, e]
  simp
 ·rw [if_neg h]
  simp only [cond_true]
  rw [List.take_of_length_le (l := b.drop (posF x.ad b)) (by simp)]
theorem holds_at {p : Pf} (hp : p.In) (cp : chkP p = 0) (hn : ((wid p.ad.v6 : Nat) : Int) - p.bits ≤ 4) {i : Nat} : holds p (addrI p i) = decide (i < 2 ^ freeBits p) := by
 obtain ⟨n1, n2, n3, n4⟩ := narrow hp cp hn
 have hpp := Nat.two_pow_pos (freeBits p)
 unfold holds addrI
 rw [show (ofNum p.ad.v6 (p.ad.num + i)).v6 = p.ad.v6 from rfl, beq_self_eq_true, Bool.true_and]
 refine decide_eq_decide.2 ?_
 unfold cutA
 rw [num_ofNum, show (ofNum p.ad.v6 (p.ad.num + i)).v6 = p.ad.v6 from rfl]
 show ofNum p.ad.v6 (cutN (p.ad.num + i) (freeBits p)) = p.ad ↔ _
 have hq : cutN (p.ad.num + i) (freeBits p) = p.ad.num ↔ i < 2 ^ freeBits p := by
  unfold cutN
  obtain ⟨m, hm⟩ := Nat.dvd_of_mod_eq_zero n3
  rw [hm, Nat.mul_add_div hpp]
  constructor
  ·intro h
   have h1 : i / 2 ^ freeBits p = 0 := by
    rw [Nat.mul_comm (2 ^ freeBits p) m] at h
    have := Nat.eq_of_mul_eq_mul_right hpp h
    omega
   rcases Nat.div_eq_zero_iff.1 h1 with h2 | h2
   ·omega
   ·exact h2
  ·intro h
   rw [Nat.div_eq_of_lt h, Nat.add_zero, Nat.mul_comm]
 rw [← hq]
 constructor
 ·intro h
  have := congrArg Ad.num h
  rwa [num_ofNum] at this
 ·intro h
  rw [h, ofNum_num _ hp.1.wf]
def hitB (p : Pf) (kp : List Ad) (b : List Ls) (i : Nat) : Bool := decide (i < 2 ^ freeBits p) && !takenB kp b (addrI p i)
theorem hit_free {p : Pf} (n2 : 2 ^ freeBits p ≤ 16) (kp : List Ad) (b : List Ls) : ((List.range' 0 16).find? (hitB p kp b)).map (addrI p) = freeOf p kp b := by
 unfold freeOf
 rw [List.find?_map]
 congr 1
 have hr : List.range' 0 16 = List.range (2 ^ freeBits p) ++ List.range' (2 ^ freeBits p) (16 - 2 ^ freeBits p) := by
  have h1 : List.range' 0 (2 ^ freeBits p) ++ List.range' (0 + 2 ^ freeBits p) (16 - 2 ^ freeBits p) = List.range' 0 (2 ^ freeBits p + (16 - 2 ^ freeBits p)) := List.range'_append_1
  rw [Nat.zero_add, show 2 ^ freeBits p + (16 - 2 ^ freeBits p) = 16 by omega] at h1
  rw [List.range_eq_range', h1]
 rw [hr, List.find?_append]
 have h2 : (List.range' (2 ^ freeBits p) (16 - 2 ^ freeBits p)).find? (hitB p kp b) = none := by
  rw [List.find?_eq_none]
  intro i hi
  have := (List.mem_range'_1.1 hi).1
  unfold hitB
  rw [decide_eq_false (by omega)]
  simp
 rw [h2, Option.or_none]
 have : ∀ l : List Nat, (∀ i ∈ l, i < 2 ^ freeBits p) → l.find? (hitB p kp b) = l.find? ((fun a => !takenB kp b a) ∘ addrI p) := by
  intro l
  induction l with
  | nil => intro _; rfl
  | cons i r ih =>
   intro h
   rw [List.find?_cons, List.find?_cons, ih fun j hj => h j (by simp [hj])]
   have : hitB p kp b i = ((fun a => !takenB kp b a) ∘ addrI p) i := by
    unfold hitB
    rw [decide_eq_true (h i (by simp))]
    rfl
   rw [this]
 exact this _ fun i hi => List.mem_range.1 hi
def goG (kp : List Ad) (l b : List Ls) (who : ByteArray) (u : Int) (a0 : Ad) : Option Ad → (((Unit) × (Unit) × (Bool × Unit) × Unit) × (List Ad × List Ls × List Ls × (Ad × Unit) × Unit)) ⊕ (((Unit) × Unit) × (List Ad × List Ls × (Ad × Unit) × Unit))
 | some a => Sum.inl (((), (), (true, ()), ()), (kp, l, insAt b ⟨a, who, u⟩, (a, ()), ()))
 | none => Sum.inr (((), ()), (kp, l, (a0, ()), ()))
theorem grant_loop {p : Pf} (hp : p.In) (cp : chkP p = 0) (hn : ((wid p.ad.v6 : Nat) : Int) - p.bits ≤ 4) {kp : List Ad} (hk : kp.length ≤ 1048576) (l : List Ls) {b : List Ls} (hb : lsIn b) (hc : ∀ y ∈ b, chkLs y = 0) (hs : ascL b = true) (hlen : b.length ≤ 20)
  (who : ByteArray) (now ttl : Int) (hu : i64ok (now + ttl) = true) (a0 : Ad) : ∀ (N n : Nat), 16 - n < N → n ≤ 16 → p.ad.num + n < 2 ^ wid p.ad.v6 →
   loopN R_GrantOf_L9 N (((who, ()), (now, ()), (ttl, ()), (), (), (), (), (), ((n : Int), ()), ()), (kp, l, (p.ad.v6, p.ad.hi, p.ad.lo, p.bits, ()), (a0, ()), b, ([] : List Ls), (addrI p n, ()), ())) =
    some (goG kp l b who (now + ttl) a0 (((List.range' n (16 - n)).find? (hitB p kp b)).map (addrI p)))
 | 0, _, h, _, _ => by omega
 | N + 1, n, hN, h16, hv => by
  obtain ⟨n1, n2, n3, n4⟩ := narrow hp cp hn
  rw [loopN_succ]
  simp only [R_GrantOf_L9]
  by_cases hlt : n < 16
  rotate_left
  ·have : n = 16 := by omega
   subst this
   rw [decide_eq_false (by omega), br_false]
   rfl
  rw [decide_eq_true (show (n : Int) < 16 by omega), br_true, leased_loop (show b.length ≤ 1048576 by omega), bind_s]
  simp only []
  have hin : (addrI p n).In := ofNum_in hv
  have hca : chkA (addrI p n) = 0 := ofNum_chk hv
  rw [R_HasAddr_eq (p := p) hp cp hin hca, bind_s, holds_at hp cp hn, br_ss, bind_s]
  have hr : List.range' n (16 - n) = n :: List.range' (n + 1) (16 - (n + 1)) := by
   rw [show 16 - n = 16 - (n + 1) + 1 by omega, List.range'_succ]
  rw [hr, List.find?_cons]
  have hgo : ((R_NextOf_t (addrI p n)).bind fun y5 =>
    br (!y5.2.1)
     (some (Sum.inr ((((), ()), (kp, l, (a0, ()), ())))))
     (req (i64ok ((n : Int) + 1)) <|
     loopN R_GrantOf_L9 N (((who, ()), (now, ()), (ttl, ()), (), (), (), (), (), ((n : Int) + 1, ()), ()), (kp, l, (p.ad.v6, p.ad.hi, p.ad.lo, p.bits, ()), (a0, ()), b, ([] : List Ls), (y5.1, ()), ())))) =
    some (goG kp l b who (now + ttl) a0 (((List.range' (n + 1) (16 - (n + 1))).find? (hitB p kp b)).map (addrI p))) := by
   have e : addrI p (n + 1) = ofNum p.ad.v6 (p.ad.num + n + 1) := by unfold addrI; rw [Nat.add_assoc]
   have hnx := R_NextOf_eq hv
   rw [← e, ← addrI] at hnx
   rw [hnx, bind_s]
   by_cases h1 : p.ad.num + n + 1 < 2 ^ wid p.ad.v6
   ·rw [if_pos h1]
    simp only [Bool.not_true, br_false]
    rw [show ((n : Int) + 1) = ((n + 1 : Nat) : Int) by omega, req_of (i64ok_of (by omega) (by omega))]
    exact grant_loop hp cp hn hk l hb hc hs hlen who now ttl hu a0 N (n + 1) (by omega) (by omega) (by omega)
   ·rw [if_neg h1]
    have h2 : (List.range' (n + 1) (16 - (n + 1))).find? (hitB p kp b) = none := by
     rw [List.find?_eq_none]
     intro i hi
     have := (List.mem_range'_1.1 hi).1
     unfold hitB
     rw [decide_eq_false (by omega)]
     simp
    rw [h2]
    rfl
  have hhit : hitB p kp b n = (decide (n < 2 ^ freeBits p) && !(kp.any (fun x => decide (addrI p n = x)) || b.any (fun x => decide (x.ad = addrI p n)))) := rfl
  rw [hhit]
  cases decide (n < 2 ^ freeBits p)
  ·simp only [cond_false, br_false, bind_s, Bool.false_and]
   exact hgo
  cases hba : b.any (fun x => decide (x.ad = addrI p n))
  rotate_left
  ·simp only [cond_true, Bool.not_true, br_false, bind_s, Bool.or_true, Bool.and_false]
   exact hgo
  simp only [cond_true, Bool.not_false, br_true, R_hasAddr_eq hk, bind_s, Bool.or_false, Bool.true_and]
  cases hka : kp.any (fun x => decide (addrI p n = x))
  rotate_left
  ·simp only [Bool.not_true, br_false]
   exact hgo
  simp only [Bool.not_false, br_true]
  rw [req_of hu]
  have hI : loopN R_GrantOf_L20 FUEL (((), (), (), (), (), (false, ()), (0, ()), ()), (kp, l, (a0, ()), b, ([] : List Ls), (addrI p n, ()), ((⟨addrI p n, who, now + ttl⟩ : Ls), ()), ())) =
    some (((), (), (), (), ((insSt b ⟨addrI p n, who, now + ttl⟩ b.length).1, ()), ()), (kp, l, (a0, ()), (insSt b ⟨addrI p n, who, now + ttl⟩ b.length).2, (addrI p n, ()), ((⟨addrI p n, who, now + ttl⟩ : Ls), ()), ())) :=
   ins_loop (x := ⟨addrI p n, who, now + ttl⟩) hb hc hs hlen hin hca hba kp l a0
  rw [hI, bind_s]
  simp only [Option.map_some, goG]
  rw [← ins_done]
  have hl2 : (insSt b ⟨addrI p n, who, now + ttl⟩ b.length).2.length ≤ 21 := by
   have := posF_le (addrI p n) b
   unfold insSt
   split
   ·simp; omega
   ·simp; omega
  cases (insSt b ⟨addrI p n, who, now + ttl⟩ b.length).1
  ·simp only [Bool.not_false, br_true, cond_false]
   rw [req_of (room_of (zq30 _) (zq30 _) (by unfold lenL; simp only [List.length_cons, List.length_nil]; omega))]
  ·simp only [Bool.not_true, br_false, cond_true]
theorem R_GrantOf_eq {p : Pf} (hp : p.In) {kp : List Ad} {l : List Ls} (h : lsIn l) {now ttl : Int} (hc : chkPool p kp = 0) (ha : allC l now = 0) (hu : i64ok (now + ttl) = true) (who : ByteArray) :
  R_GrantOf_t p kp l who now ttl = some (rawOf p kp (live l now) who (now + ttl)) := by
 obtain ⟨a1, a2, a3, a4⟩ := allC_ok ha
 obtain ⟨c1, c2, c3⟩ := chkPool_ok hc
 have hll := live_len l now
 unfold R_GrantOf_t
 rw [R_LiveOf_eq (by omega) now, bind_s]
 have hbs := live_asc h a3 now
 have hbi := live_in h now
 have hbc : ∀ y ∈ live l now, chkLs y = 0 := fun y hy => a2 y (List.mem_filter.1 hy).1
 generalize live l now = b at hll hbs hbi hbc ⊢
 obtain ⟨n1, n2, n3, n4⟩ := narrow hp c1 c2
 rw [R_WhoAt_eq (show b.length ≤ 9223372036854775807 by omega), bind_s]
 unfold rawOf
 cases hfw : firstF (whoP who) b with
 | some k =>
  have hk := firstF_lt hfw
  obtain ⟨e, he⟩ : ∃ e, b[k]? = some e := ⟨_, List.getElem?_eq_getElem hk⟩
  have r1 : inRange (k : Int) (lenL b) = true := zq12 (by omega) (by unfold lenL; omega)
  have r2 : inRange (k : Int) (lenL (seti b (k : Int) (⟨e.ad, e.who, now + ttl⟩ : Ls))) = true := zq12 (by omega) (by unfold lenL seti; simp only [List.length_set]; omega)
  have hg : geti (seti b (k : Int) (⟨e.ad, e.who, now + ttl⟩ : Ls)) (k : Int) = some ⟨e.ad, e.who, now + ttl⟩ := by
   rw [geti_nat]
   simp [seti, hk]
  simp only [idxI_nonneg, Option.isSome_some, br_true]
  simp only [idxI]
  rw [req_of hu]
  simp only [r1, req_true, geti_at he, bind_s, r2, hg]
  unfold keepOn
  rw [he]
  simp [seti]
 | none =>
  simp only [idxI_nonneg, Option.isSome_none, br_false]
  have hg := grant_loop hp c1 c2 (kp := kp) (by omega) l hbi hbc hbs (by omega) who now ttl hu ⟨false, 0, 0⟩ FUEL 0 (by have : FUEL = 18446744073709551616 := rfl; omega) (by omega) (by have := Nat.two_pow_pos (freeBits p); omega)
  have h0 : addrI p 0 = p.ad := by
   unfold addrI
   rw [Nat.add_zero, ofNum_num _ hp.1.wf]
  rw [h0, show ((0 : Nat) : Int) = 0 from rfl, show 16 - 0 = 16 from rfl, hit_free n2] at hg
  rw [hg, bind_s]
  cases freeOf p kp b <;> rfl
end Go.Ma
namespace Go.Ma
open Go
def quadP : Pf := ⟨⟨false, 0, 8⟩, 30⟩
theorem quad_in : quadP.In := ⟨⟨⟨by decide, by decide⟩, by decide, by decide⟩, by decide, by decide⟩
theorem kept_in : adIn [⟨false, 0, 8⟩] := fun a ha => by
 simp only [List.mem_singleton] at ha
 subst ha
 exact ⟨⟨by decide, by decide⟩, by decide, by decide⟩
def wx : ByteArray := ⟨#[120]⟩
theorem wx_in : strIn wx := by unfold strIn maxLen; decide
theorem live_mem {l : List Ls} {now : Int} {x : Ls} (h : x ∈ live l now) : x ∈ l ∧ now ≤ x.upto := ⟨(List.mem_filter.1 h).1, by have := (List.mem_filter.1 h).2; simpa [liveP] using this⟩
theorem lsIn_nil : lsIn [] := fun x hx => by cases hx
theorem chkLsF_of : ∀ {l : List Ls}, (∀ x ∈ l, chkLs x = 0) → chkLsF l = 0
 | [], _ => rfl
 | y :: r, h => by
  unfold chkLsF
  rw [if_neg (fun h' => h' (h y (by simp))), chkLsF_of fun x hx => h x (by simp [hx])]
end Go.Ma
namespace Go.Ma
open Go
end Go.Ma
namespace Go.Ma
open Go
end Go.Ma
namespace Go.Ma
open Go
theorem prefix_Order_eq {p q : Pf} (hp : chkP p = 0) (hq : chkP q = 0) : prefix_Order_t p q = some (ordP p q, ()) := by
 have h1 := chkP_bits hp
 have h2 := chkP_bits hq
 have h3 := wid_le p.ad.v6
 have h4 := wid_le q.ad.v6
 unfold prefix_Order_t ordP
 rw [addr_Order_eq, bind_s]
 by_cases h : ordA p.ad q.ad = 0
 ·rw [decide_eq_true (show (ordA p.ad q.ad, ()).1 = 0 from h), Bool.not_true, br_false, if_neg (fun h' => h' h), req_of (i64ok_of (by omega) (by omega))]
 ·rw [decide_eq_false (show ¬ (ordA p.ad q.ad, ()).1 = 0 from h), Bool.not_false, br_true, if_pos h]
def aheadP (p q : Pf) : Bool := if p.ad ≠ q.ad then aheadA p.ad q.ad else decide (p.bits < q.bits)
theorem R_PrefixAhead_eq {p q : Pf} (hp : p.In) (hq : q.In) (cp : chkP p = 0) (cq : chkP q = 0) : R_PrefixAhead_t p q = some (aheadP p q, ()) := by
 unfold R_PrefixAhead_t aheadP
 rw [eqAd_eq]
 by_cases h : p.ad = q.ad
 ·rw [decide_eq_true h, Bool.not_true, br_false, if_neg (fun h' => h' h)]
 ·rw [decide_eq_false h, Bool.not_false, br_true, if_pos h, R_IsAhead_eq hp.1 hq.1 (chkP_ad cp) (chkP_ad cq), bind_s]
theorem ord_ahead {p q : Pf} (hp : p.In) (hq : q.In) : decide (ordP q p > 0) = aheadP p q := by
 unfold ordP aheadP
 have e : (p.ad = q.ad) ↔ (p.ad.v6 = q.ad.v6 ∧ p.ad.hi = q.ad.hi ∧ p.ad.lo = q.ad.lo) := by
  cases p.ad; cases q.ad
  simp only [Ad.mk.injEq]
 have hn : p.ad.v6 = q.ad.v6 → (p.ad.num < q.ad.num ↔ (p.ad.hi < q.ad.hi ∨ (p.ad.hi = q.ad.hi ∧ p.ad.lo < q.ad.lo))) := by
  intro _
  obtain ⟨⟨a1, a2⟩, a3, a4⟩ := hp.1
  obtain ⟨⟨b1, b2⟩, b3, b4⟩ := hq.1
  unfold Ad.num
  omega
 unfold ordA ordI aheadA
 by_cases hv : p.ad.v6 = q.ad.v6
 ·have hv' : q.ad.v6 = p.ad.v6 := hv.symm
  rw [Bool.eq_iff_iff, decide_eq_true_iff]
  simp only [hv, ne_eq, not_true, false_and, if_false]
  have hn := hn hv
  by_cases h1 : p.ad.hi = q.ad.hi
  ·by_cases h2 : p.ad.lo = q.ad.lo
   ·have := e.2 ⟨hv, h1, h2⟩
    simp [this]
    try omega
   ·have hne : ¬ p.ad = q.ad := fun h => h2 (e.1 h).2.2
    simp only [h1, not_true, if_false, hne, not_false_eq_true, if_true, decide_eq_true_iff, hn]
    by_cases h3 : q.ad.lo < p.ad.lo
    ·simp [h3]; try omega
    ·have h4 : q.ad.lo > p.ad.lo := by omega
     simp [h3, h4]
  ·have hne : ¬ p.ad = q.ad := fun h => h1 (e.1 h).2.1
   have h1' : ¬ q.ad.hi = p.ad.hi := fun h => h1 h.symm
   simp only [h1', not_false_eq_true, if_true, hne, decide_eq_true_iff, hn]
   by_cases h3 : q.ad.hi < p.ad.hi
   ·simp [h3]; try omega
   ·have h4 : q.ad.hi > p.ad.hi := by omega
    simp [h3, h4]
 ·have hne : ¬ p.ad = q.ad := fun h => hv (e.1 h).1
  have hv' : ¬ q.ad.v6 = p.ad.v6 := fun h => hv h.symm
  simp only [hne, hv, hv', ne_eq, not_false_eq_true, true_and, if_true]
  cases hp6 : p.ad.v6 <;> cases hq6 : q.ad.v6
  ·rw [hp6, hq6] at hv; exact absurd rfl hv
  ·simp
  ·simp
  ·rw [hp6, hq6] at hv; exact absurd rfl hv
theorem prefix_Over_eq {p q : Pf} (cp : chkP p = 0) (hq : q.In) : prefix_Over_t p q = some (over p q, ()) := by
 obtain ⟨h1, h2⟩ := chkP_bits cp
 unfold prefix_Over_t over
 rw [prefix_Holds_eq h1 h2 hq.1, bind_s, br_sb, bind_s]
 cases decide (p.bits ≤ q.bits) <;> rfl
theorem R_HasPrefix_eq {p q : Pf} (hp : p.In) (cp : chkP p = 0) (hq : q.In) (cq : chkA q.ad = 0) : R_HasPrefix_t p q = some (over p q, ()) := by
 unfold R_HasPrefix_t over
 rw [R_HasAddr_eq hp cp hq.1 cq, bind_s, br_sb, bind_s]
 cases decide (p.bits ≤ q.bits) <;> rfl
end Go.Ma
namespace Go.Ma
open Go
end Go.Ma
namespace Go.Ma
open Go
end Go.Ma
namespace Go.Ma
open Go
end Go.Ma
namespace Go.Ma
open Go
end Go.Ma
namespace Go.Ma
open Go
theorem holds_iff {p : Pf} {a : Ad} : holds p a = true ↔ p.ad.v6 = a.v6 ∧ cutA a p.bits = p.ad := by simp [holds]
theorem over_iff {p q : Pf} : over p q = true ↔ p.bits ≤ q.bits ∧ holds p q.ad = true := by simp [over]
theorem holds_self {p : Pf} (cp : chkP p = 0) : holds p p.ad = true := by
 rw [holds_iff]
 exact ⟨rfl, chkP_cut cp⟩
end Go.Ma
namespace Go.Ma
open Go
def free (p : Pf) : Nat := wid p.ad.v6 - p.bits.toNat
theorem free_facts {p : Pf} (hp : p.In) (cp : chkP p = 0) : free p ≤ wid p.ad.v6 ∧ p.ad.num % 2 ^ free p = 0 ∧ p.ad.num + 2 ^ free p ≤ 2 ^ wid p.ad.v6 := by
 have h3 : p.ad.num % 2 ^ free p = 0 := (cutN_iff _ _).1 ((cutA_iff hp.1.wf p.bits).1 (chkP_cut cp))
 have h4 := right_num p.ad ⟨hp.1.wf, chkP_ad cp⟩
 have hk : free p ≤ wid p.ad.v6 := by unfold free; omega
 refine ⟨hk, h3, ?_⟩
 have h5 : 2 ^ wid p.ad.v6 = 2 ^ free p * 2 ^ (wid p.ad.v6 - free p) := by rw [← Nat.pow_add]; congr 1; omega
 obtain ⟨m, hm⟩ := Nat.dvd_of_mod_eq_zero h3
 rw [hm, h5] at h4 ⊢
 have := Nat.lt_of_mul_lt_mul_left h4
 calc 2 ^ free p * m + 2 ^ free p = 2 ^ free p * (m + 1) := by rw [Nat.mul_add, Nat.mul_one]
  _ ≤ _ := Nat.mul_le_mul_left _ this
theorem holds_span {p : Pf} {a : Ad} (hp : p.In) (cp : chkP p = 0) (ha : a.In) : holds p a = true ↔ p.ad.v6 = a.v6 ∧ p.ad.num ≤ a.num ∧ a.num < p.ad.num + 2 ^ free p := by
 obtain ⟨f1, f2, f3⟩ := free_facts hp cp
 have hpp := Nat.two_pow_pos (free p)
 rw [holds_iff]
 constructor
 ·rintro ⟨h1, h2⟩
  have h3 : p.ad.num = cutN a.num (free p) := by
   have h4 : (cutA a p.bits).num = cutN a.num (wid a.v6 - p.bits.toNat) := by unfold cutA; rw [num_ofNum]
   rw [h2] at h4
   rw [h4]
   unfold free
   rw [h1]
  unfold cutN at h3
  have := Nat.div_add_mod a.num (2 ^ free p)
  have h5 := Nat.mod_lt a.num hpp
  rw [Nat.mul_comm] at this
  refine ⟨h1, by omega, by omega⟩
 ·rintro ⟨h1, h2, h3⟩
  refine ⟨h1, ?_⟩
  obtain ⟨m, hm⟩ := Nat.dvd_of_mod_eq_zero f2
  have h4 : a.num / 2 ^ free p = m := by
   apply Nat.div_eq_of_lt_le
   ·rw [Nat.mul_comm]; omega
   ·rw [Nat.add_mul, Nat.one_mul, Nat.mul_comm]; omega
  unfold cutA cutN
  rw [show wid a.v6 - p.bits.toNat = free p by unfold free; rw [h1], h4, ← h1, Nat.mul_comm, ← hm, ofNum_num p.ad hp.1.wf]
theorem over_refl {p : Pf} (cp : chkP p = 0) : over p p = true := over_iff.2 ⟨Int.le_refl _, holds_self cp⟩
theorem apart_one {p q : Pf} (hp : p.In) (hq : q.In) (cp : chkP p = 0) (cq : chkP q = 0) (hv : p.ad.v6 = q.ad.v6) (h1 : q.ad.num ≤ p.ad.num + (2 ^ free p - 1)) (h2 : p.ad.num ≤ q.ad.num + (2 ^ free q - 1)) (hb : p.bits ≤ q.bits) : over p q = true := by
 rw [over_iff]
 refine ⟨hb, (holds_span hp cp hq.1).2 ⟨hv, ?_, by have := Nat.two_pow_pos (free p); omega⟩⟩
 obtain ⟨_, f2, _⟩ := free_facts hp cp
 obtain ⟨_, g2, _⟩ := free_facts hq cq
 have hle : free q ≤ free p := by unfold free; rw [hv]; omega
 have e : 2 ^ free p = 2 ^ free q * 2 ^ (free p - free q) := by rw [← Nat.pow_add]; congr 1; omega
 obtain ⟨m, hm⟩ := Nat.dvd_of_mod_eq_zero f2
 obtain ⟨k, hk⟩ := Nat.dvd_of_mod_eq_zero g2
 have hpos := Nat.two_pow_pos (free q)
 have hm' : p.ad.num = 2 ^ free q * (2 ^ (free p - free q) * m) := by rw [hm, e, Nat.mul_assoc]
 rw [hm', hk] at h2 ⊢
 apply Nat.mul_le_mul_left
 apply Nat.le_of_lt_succ
 apply Nat.lt_of_mul_lt_mul_left (a := 2 ^ free q)
 rw [Nat.mul_succ]
 omega
end Go.Ma
namespace Go.Ma
open Go
theorem ofF_iff (p : Pf) : ∀ (m bf : List Ls), ofF p bf m = 0 ↔ (∀ x ∈ m, holds p x.ad = true) ∧ (∀ y ∈ bf, ∀ x ∈ m, y.who ≠ x.who) ∧ m.Pairwise fun x y => x.who ≠ y.who
 | [], bf => by simp [ofF]
 | x :: r, bf => by
  unfold ofF
  by_cases h1 : holds p x.ad = true
  ·rw [if_neg (by simp [h1])]
   by_cases h2 : bf.any (whoP x.who) = true
   ·rw [if_pos h2]
    constructor
    ·intro h; exact absurd h (by decide)
    ·rintro ⟨_, h3, _⟩
     obtain ⟨y, hy, hq⟩ := List.any_eq_true.1 h2
     exact absurd (by simpa [whoP] using hq) (h3 y hy x (by simp))
   ·rw [if_neg h2, ofF_iff p r (bf ++ [x])]
    have h2' : ∀ y ∈ bf, y.who ≠ x.who := fun y hy he => h2 (List.any_eq_true.2 ⟨y, hy, by simp [whoP, he]⟩)
    constructor
    ·rintro ⟨a1, a2, a3⟩
     refine ⟨fun z hz => ?_, fun y hy z hz => ?_, List.pairwise_cons.2 ⟨fun z hz => a2 x (by simp) z hz, a3⟩⟩
     ·rcases List.mem_cons.1 hz with rfl | hz
      ·exact h1
      ·exact a1 z hz
     ·rcases List.mem_cons.1 hz with rfl | hz
      ·exact h2' y hy
      ·exact a2 y (by simp [hy]) z hz
    ·rintro ⟨a1, a2, a3⟩
     obtain ⟨b1, b2⟩ := List.pairwise_cons.1 a3
     refine ⟨fun z hz => a1 z (by simp [hz]), fun y hy z hz => ?_, b2⟩
     rcases List.mem_append.1 hy with hy | hy
     ·exact a2 y hy z (by simp [hz])
     ·have : y = x := by simpa using hy
      subst this
      exact b1 z hz
  ·rw [if_pos (by simpa using h1)]
   constructor
   ·intro h; exact absurd h (by decide)
   ·rintro ⟨a1, _⟩; exact absurd (a1 x (by simp)) h1
structure Good (p : Pf) (m : List Ls) : Prop where
 ins : lsIn m
 chk : ∀ x ∈ m, chkLs x = 0
 held : ∀ x ∈ m, holds p x.ad = true
 asc : m.Pairwise fun x y => rank x.ad < rank y.ad
 whos : m.Pairwise fun x y => x.who ≠ y.who
theorem good_of {p : Pf} {kp : List Ad} {l : List Ls} {now : Int} (h : lsIn l) (hc : chkOf p kp l now = 0) : Good p l := by
 obtain ⟨c1, c2, c3⟩ := chkOf_ok hc
 obtain ⟨a1, a2, a3, a4⟩ := allC_ok c2
 obtain ⟨o1, _, o3⟩ := (ofF_iff p l []).1 c3
 exact ⟨h, a2, o1, (asc_pair h).1 a3, o3⟩
theorem Good.live {p : Pf} {l : List Ls} (g : Good p l) (now : Int) : Good p (live l now) :=
 ⟨fun x hx => g.ins x (live_mem hx).1, fun x hx => g.chk x (live_mem hx).1, fun x hx => g.held x (live_mem hx).1, g.asc.filter _, g.whos.filter _⟩
theorem asc_len {lo : Nat} : ∀ {l : List Nat} {hi : Nat}, l.Pairwise (· < ·) → (∀ x ∈ l, lo ≤ x ∧ x < hi) → l.length ≤ hi - lo
 | [], _, _, _ => Nat.zero_le _
 | x :: r, hi, h, hb => by
  obtain ⟨h1, h2⟩ := List.pairwise_cons.1 h
  have hx := hb x (by simp)
  have := asc_len (lo := x + 1) (l := r) (hi := hi) h2 fun y hy => ⟨h1 y hy, (hb y (by simp [hy])).2⟩
  simp only [List.length_cons]
  omega
theorem Good.len {p : Pf} {l : List Ls} (g : Good p l) (hp : p.In) (cp : chkP p = 0) (hn : ((wid p.ad.v6 : Nat) : Int) - p.bits ≤ 4) : l.length ≤ 16 := by
 obtain ⟨n1, n2, n3, n4⟩ := narrow hp cp hn
 have h := asc_len (lo := rank p.ad) (l := l.map fun x => rank x.ad) (hi := rank p.ad + 16) (by rw [List.pairwise_map]; exact g.asc) fun y hy => by
  obtain ⟨x, hx, rfl⟩ := List.mem_map.1 hy
  obtain ⟨s1, s2, s3⟩ := (holds_span hp cp (g.ins x hx).1).1 (g.held x hx)
  have e : free p = freeBits p := rfl
  rw [e] at s3
  unfold rank
  rw [s1]
  omega
 rw [List.length_map] at h
 omega
theorem Good.ok {p : Pf} {l : List Ls} (g : Good p l) {kp : List Ad} (hp : p.In) (hc : chkPool p kp = 0) {now : Int} (ht : betw now 0 9999 = true) : chkOf p kp l now = 0 := by
 obtain ⟨cp, hn, _⟩ := chkPool_ok hc
 have hlen := g.len hp cp hn
 have ha : allC l now = 0 := by
  unfold allC
  rw [if_neg (by omega), chkLsF_of g.chk, if_neg (fun h => h rfl), (asc_pair g.ins).2 g.asc, if_neg (by simp), ht, if_neg (by simp)]
 unfold chkOf
 rw [hc, if_neg (fun h => h rfl), ha, if_neg (fun h => h rfl)]
 exact (ofF_iff p l []).2 ⟨g.held, fun y hy => absurd hy (by simp), g.whos⟩
theorem mem_setQ {b : List Ls} {k : Nat} {v x : Ls} (h : x ∈ b.set k v) : x ∈ b ∨ x = v := (List.mem_or_eq_of_mem_set h)
theorem map_set_same {α : Type} (f : Ls → α) {b : List Ls} {k : Nat} {e v : Ls} (he : b[k]? = some e) (h : f v = f e) : (b.set k v).map f = b.map f := by
 rw [List.map_set, h]
 have hk := (List.getElem?_eq_some_iff.1 he).1
 have : f e = (b.map f)[k]'(by simpa using hk) := by
  rw [List.getElem_map, (List.getElem?_eq_some_iff.1 he).2]
 rw [this, List.set_getElem_self]
theorem chkLs_new {a : Ad} {who : ByteArray} {u : Int} (ca : chkA a = 0) (hw : whoOk who = true) (hu : betw u 0 10499 = true) : chkLs ⟨a, who, u⟩ = 0 := by
 unfold chkLs
 simp only [ca, hw, hu]
 simp
theorem Good.set {p : Pf} {b : List Ls} (g : Good p b) {k : Nat} {e : Ls} (he : b[k]? = some e) {u : Int} (hu : betw u 0 10499 = true) : Good p (b.set k ⟨e.ad, e.who, u⟩) := by
 have hm := List.mem_of_getElem? he
 obtain ⟨u1, u2⟩ := betw_iff.1 hu
 obtain ⟨e1, e2, e3⟩ := chkLs_ad (g.chk e hm)
 obtain ⟨i1, i2, i3⟩ := g.ins e hm
 refine ⟨fun x hx => ?_, fun x hx => ?_, fun x hx => ?_, ?_, ?_⟩
 ·rcases mem_setQ hx with hx | rfl
  ·exact g.ins x hx
  ·exact ⟨i1, i2, ⟨by show (-9223372036854775808 : Int) ≤ u; omega, by show u < 9223372036854775808; omega⟩⟩
 ·rcases mem_setQ hx with hx | rfl
  ·exact g.chk x hx
  ·exact chkLs_new e1 e2 hu
 ·rcases mem_setQ hx with hx | rfl
  ·exact g.held x hx
  ·exact g.held e hm
 ·have := g.asc
  rw [← List.pairwise_map (f := fun x : Ls => rank x.ad) (R := (· < ·))] at this ⊢
  rwa [map_set_same (fun x : Ls => rank x.ad) (v := ⟨e.ad, e.who, u⟩) he rfl]
 ·have := g.whos
  rw [← List.pairwise_map (f := fun x : Ls => x.who) (R := (· ≠ ·))] at this ⊢
  rwa [map_set_same (fun x : Ls => x.who) (v := ⟨e.ad, e.who, u⟩) he rfl]
theorem mem_ins {b : List Ls} {x y : Ls} : y ∈ insAt b x ↔ y ∈ b ∨ y = x := by
 unfold insAt
 have h := List.take_append_drop (posF x.ad b) b
 rw [List.mem_append, List.mem_cons]
 constructor
 ·rintro (h1 | rfl | h1)
  ·exact .inl (List.mem_of_mem_take h1)
  ·exact .inr rfl
  ·exact .inl (List.mem_of_mem_drop h1)
 ·rintro (h1 | rfl)
  ·rw [← h] at h1
   rcases List.mem_append.1 h1 with h2 | h2
   ·exact .inl h2
   ·exact .inr (.inr h2)
  ·exact .inr (.inl rfl)
theorem Good.put {p : Pf} {b : List Ls} (g : Good p b) {a : Ad} (ha : a.In) (ca : chkA a = 0) (hh : holds p a = true) (hfree : ∀ x ∈ b, x.ad ≠ a) {who : ByteArray} (hs : strIn who) (hw : whoOk who = true) (hno : ∀ x ∈ b, x.who ≠ who) {u : Int} (hu : betw u 0 10499 = true) :
  Good p (insAt b ⟨a, who, u⟩) := by
 obtain ⟨u1, u2⟩ := betw_iff.1 hu
 have hsplit := List.take_append_drop (posF a b) b
 have hasc := g.asc
 have hwhos := g.whos
 rw [← hsplit, List.pairwise_append] at hasc hwhos
 have hpos := fun (h : Nat) (x : Ls) (hx : b[h]? = some x) => pos_iff ha g.ins ((asc_pair g.ins).2 g.asc) hx
 have hlo : ∀ y ∈ b.take (posF a b), rank y.ad < rank a := fun y hy => by
  obtain ⟨i, hi⟩ := List.getElem?_of_mem hy
  have hi2 : i < posF a b := by
   have := (List.getElem?_eq_some_iff.1 hi).1
   simp at this
   omega
  rw [List.getElem?_take_of_lt hi2] at hi
  exact (ord_rank (g.ins y (List.mem_of_getElem? hi)).1 ha).1.1 ((hpos i y hi).2 hi2)
 have hhi : ∀ y ∈ b.drop (posF a b), rank a < rank y.ad := fun y hy => by
  obtain ⟨i, hi⟩ := List.getElem?_of_mem hy
  rw [List.getElem?_drop] at hi
  have hm := List.mem_of_getElem? hi
  have h1 : ¬ rank y.ad < rank a := fun h => by
   have := (hpos _ y hi).1 ((ord_rank (g.ins y hm).1 ha).1.2 h)
   omega
  have h2 : rank y.ad ≠ rank a := fun h => hfree y hm (rank_inj (g.ins y hm).1 ha h)
  omega
 refine ⟨fun x hx => ?_, fun x hx => ?_, fun x hx => ?_, ?_, ?_⟩
 ·rcases mem_ins.1 hx with hx | rfl
  ·exact g.ins x hx
  ·exact ⟨ha, hs, ⟨by show (-9223372036854775808 : Int) ≤ u; omega, by show u < 9223372036854775808; omega⟩⟩
 ·rcases mem_ins.1 hx with hx | rfl
  ·exact g.chk x hx
  ·exact chkLs_new ca hw hu
 ·rcases mem_ins.1 hx with hx | rfl
  ·exact g.held x hx
  ·exact hh
 ·unfold insAt
  rw [List.pairwise_append, List.pairwise_cons]
  refine ⟨hasc.1, ⟨hhi, hasc.2.1⟩, fun y hy z hz => ?_⟩
  rcases List.mem_cons.1 hz with rfl | hz
  ·exact hlo y hy
  ·exact hasc.2.2 y hy z hz
 ·unfold insAt
  rw [List.pairwise_append, List.pairwise_cons]
  refine ⟨hwhos.1, ⟨fun z hz he => hno z (List.mem_of_mem_drop hz) he.symm, hwhos.2.1⟩, fun y hy z hz => ?_⟩
  rcases List.mem_cons.1 hz with rfl | hz
  ·exact hno y (List.mem_of_mem_take hy)
  ·exact hwhos.2.2 y hy z hz
theorem who_at {m : List Ls} (h : m.Pairwise fun x y => x.who ≠ y.who) {x : Ls} (hx : x ∈ m) : ∃ k, firstF (whoP x.who) m = some k ∧ m[k]? = some x := by
 cases hf : firstF (whoP x.who) m with
 | none =>
  have := firstF_none hf x hx
  simp [whoP] at this
 | some k =>
  obtain ⟨y, hy, hq, _⟩ := firstF_some hf
  refine ⟨k, rfl, ?_⟩
  have hyx : y.who = x.who := by simpa [whoP] using hq
  obtain ⟨i, hi⟩ := List.getElem?_of_mem hx
  obtain ⟨k1, k2⟩ := List.getElem?_eq_some_iff.1 hy
  obtain ⟨i1, i2⟩ := List.getElem?_eq_some_iff.1 hi
  have hp := List.pairwise_iff_getElem.1 h
  rcases Nat.lt_trichotomy k i with h1 | h1 | h1
  ·exact absurd (by rw [k2, i2]; exact hyx) (hp k i k1 i1 h1)
  ·subst h1; exact hi
  ·exact absurd (by rw [k2, i2]; exact hyx.symm) (hp i k i1 k1 h1)
structure Given (p : Pf) (kp : List Ad) (l : List Ls) (who : ByteArray) (now u : Int) (m : List Ls) (a : Ad) : Prop where
 good : Good p m
 alive : ∀ x ∈ m, now ≤ x.upto
 mine : (⟨a, who, u⟩ : Ls) ∈ m
 others : ∀ x ∈ l, now ≤ x.upto → x.who ≠ who → x ∈ m
 fresh : (∀ x ∈ l, now ≤ x.upto → x.who ≠ who) → ∀ x ∈ kp, x ≠ a
theorem given_of {p : Pf} (hp : p.In) {kp : List Ad} {l : List Ls} (hl : lsIn l) {who : ByteArray} (hw : strIn who) {now ttl : Int} {m : List Ls} {a : Ad} (h : grantOf p kp l who now ttl = (m, a, 0, ())) :
  chkOf p kp l now = 0 ∧ whoOk who = true ∧ Given p kp l who now (now + ttl) m a := by
 unfold grantOf at h
 split at h
 ·rename_i hc
  exact absurd (congrArg (fun y => y.2.2.1) h) hc
 rename_i hc
 have hc : chkOf p kp l now = 0 := Decidable.not_not.1 hc
 split at h
 ·exact absurd (show (1 : Int) = 0 from congrArg (fun y => y.2.2.1) h) (by decide)
 rename_i hwo
 have hwo : whoOk who = true := by simpa using hwo
 split at h
 ·exact absurd (show (3 : Int) = 0 from congrArg (fun y => y.2.2.1) h) (by decide)
 rename_i ht
 have ht : betw ttl 1 500 = true := by simpa using ht
 split at h
 ·exact absurd (show (8 : Int) = 0 from congrArg (fun y => y.2.2.1) h) (by decide)
 rename_i hr
 obtain ⟨c1, c2, c3⟩ := chkOf_ok hc
 obtain ⟨cp, hn, _⟩ := chkPool_ok c1
 obtain ⟨t1, t2⟩ := betw_iff.1 ht
 obtain ⟨v1, v2⟩ := betw_iff.1 (allC_ok c2).2.2.2
 have hu : betw (now + ttl) 0 10499 = true := betw_iff.2 ⟨by omega, by omega⟩
 have g := (good_of hl hc).live now
 have hlm : ∀ x ∈ l, now ≤ x.upto → x ∈ live l now := fun x hx h => List.mem_filter.2 ⟨hx, by simp [liveP, h]⟩
 have hm : (rawOf p kp (live l now) who (now + ttl)).1 = m := congrArg (fun y => y.1) h
 have ha : (rawOf p kp (live l now) who (now + ttl)).2.1 = a := congrArg (fun y => y.2.1) h
 clear h
 refine ⟨hc, hwo, ?_⟩
 unfold rawOf at hm ha hr
 cases hf : firstF (whoP who) (live l now) with
 | some k =>
  rw [hf] at hm ha hr
  obtain ⟨e, he, hq, _⟩ := firstF_some hf
  have hew : e.who = who := by simpa [whoP] using hq
  simp only [keepOn, he] at hm ha
  subst hm ha
  have hk := (List.getElem?_eq_some_iff.1 he).1
  refine ⟨g.set he hu, fun x hx => ?_, ?_, fun x hx hx2 hx3 => ?_, fun hno => ?_⟩
  ·rcases mem_setQ hx with hx | rfl
   ·exact (live_mem hx).2
   ·show now ≤ now + ttl
    omega
  ·rw [← hew]
   exact List.mem_of_getElem? (List.getElem?_set_self (by exact hk))
  ·obtain ⟨i, hi⟩ := List.getElem?_of_mem (hlm x hx hx2)
   have hik : k ≠ i := fun h => by
    subst h
    rw [he] at hi
    injection hi with hi
    exact hx3 (by rw [← hi, hew])
   exact List.mem_of_getElem? ((List.getElem?_set_ne hik).trans hi)
  ·have hm := live_mem (List.mem_of_getElem? he)
   exact absurd hew (hno e hm.1 hm.2)
 | none =>
  rw [hf] at hm ha hr
  cases hfr : freeOf p kp (live l now) with
  | none =>
   rw [hfr] at hr
   exact absurd rfl hr
  | some b =>
   rw [hfr] at hm ha
   simp only [putNew] at hm ha
   subst hm ha
   obtain ⟨⟨i, hi, hbi⟩, htk⟩ := freeOf_some hfr
   obtain ⟨n1, n2, n3, n4⟩ := narrow hp cp hn
   obtain ⟨b1, b2⟩ := addrI_in n4 hi
   unfold takenB at htk
   simp only [Bool.or_eq_false_iff, List.any_eq_false, decide_eq_true_eq] at htk
   have hno : ∀ x ∈ live l now, x.who ≠ who := fun x hx he => by
    have := firstF_none hf x hx
    simp [whoP, he] at this
   refine ⟨g.put (by rw [hbi]; exact b1) (by rw [hbi]; exact b2) (by rw [hbi, holds_at hp cp hn]; exact decide_eq_true hi) htk.2 hw hwo hno hu, fun x hx => ?_, mem_ins.2 (.inr rfl), fun x hx hx2 hx3 => mem_ins.2 (.inl (hlm x hx hx2)), fun _ x hx he => htk.1 x hx he.symm⟩
   rcases mem_ins.1 hx with hx | rfl
   ·exact (live_mem hx).2
   ·show now ≤ now + ttl
    omega
end Go.Ma
namespace Go.Ma
open Go
theorem state_within_eq (x a b : Int) : state_within_t x a b = some (betw x a b, ()) := by
 unfold state_within_t
 rw [br_ss, bind_s, betw_bif]
def extraO (o : Oq) : Bool :=
 bif (bif (bif (bif (bif !decide (o.kind = 1) then !(eqPf o.pf ⟨⟨false, 0, 0⟩, 0⟩) else false) then true else (bif !decide (o.kind = 2) then !(eqAd o.ad ⟨false, 0, 0⟩) else false))
  then true else (bif !decide (o.kind = 3) then (bif !decide (o.kind = 4) then strcmp .neq o.who ByteArray.empty else false) else false))
  then true else (bif !decide (o.kind = 3) then !decide (o.of_ = 0) else false))
  then true else (bif !decide (o.kind = 3) then (bif !decide (o.kind = 5) then !decide (o.n = 0) else false) else false)
def formO (o : Oq) : Int :=
 if betw o.kind 1 5 = false then 7 else if extraO o = true then 1
 else if o.kind = 1 then (if chkP o.pf ≠ 0 then chkP o.pf else if ((wid o.pf.ad.v6 : Nat) : Int) - o.pf.bits ≤ 4 then 0 else 2)
 else if o.kind = 2 then chkA o.ad
 else if o.kind < 5 ∧ whoOk o.who = false then 1
 else if o.kind = 3 ∧ (betw o.of_ 0 2 = false ∨ betw o.n 1 500 = false) then 3
 else if o.kind = 5 ∧ betw o.n 0 9999 = false then 3 else 0
theorem state_extra_eq (o : Oq) : state_extra_t o = some (extraO o, ()) := by
 unfold state_extra_t
 simp only [br_ss, bind_s]
 rfl
theorem state_Form_eq {o : Oq} (h : o.In) : state_Form_t o = some (formO o, ()) := by
 obtain ⟨_, hp, ha, hw, _, _⟩ := h
 unfold state_Form_t formO
 rw [state_within_eq, bind_s]
 cases hk : betw o.kind 1 5
 ·rfl
 obtain ⟨hk1, hk2⟩ := betw_iff.1 hk
 simp only [Bool.not_true, br_false, Bool.true_eq_false, if_false]
 rw [state_extra_eq, bind_s]
 cases extraO o
 rotate_left
 ·rfl
 simp only [br_false, Bool.false_eq_true, if_false]
 by_cases k1 : o.kind = 1
 ·rw [decide_eq_true k1, br_true, if_pos k1, prefix_Check_eq hp, bind_s]
  by_cases hc : chkP o.pf = 0
  ·simp only [hc, decide_true, Bool.not_true, br_false, ne_eq, not_true, if_false]
   rw [lease_Narrow_eq hc, bind_s]
   by_cases hn : ((wid o.pf.ad.v6 : Nat) : Int) - o.pf.bits ≤ 4 <;> simp [hn, br_true, br_false]
  ·simp [hc, br_true]
 rw [decide_eq_false k1, br_false, if_neg k1]
 by_cases k2 : o.kind = 2
 ·rw [decide_eq_true k2, br_true, if_pos k2, addr_Check_eq, bind_s]
 rw [decide_eq_false k2, br_false, if_neg k2]
 have who : ∀ (X : Bool → Option (Int × Unit)), ((lease_Who_t o.who).bind fun y => X y.1) = X (whoOk o.who) := fun X => by rw [lease_Who_eq hw, bind_s]
 by_cases k3 : o.kind = 3
 ·simp only [k3, decide_true, br_true, lease_Who_eq hw, bind_s, state_within_eq, br_ss]
  cases whoOk o.who <;> cases betw o.of_ 0 2 <;> cases betw o.n 1 500 <;> simp [br_true, br_false]
 ·simp only [k3, decide_false, br_false]
  by_cases k4 : o.kind = 4
  ·simp only [k4, lease_Who_eq hw, bind_s, state_within_eq, br_ss]
   cases whoOk o.who <;> simp [br_true, br_false]
  ·have k5 : o.kind = 5 := by omega
   simp only [k5, state_within_eq, bind_s]
   cases betw o.n 0 9999 <;> simp [br_true, br_false]
end Go.Ma
namespace Go.Ma
open Go
end Go.Ma
namespace Go.Ma
open Go
theorem R_CheckOp_eq {o : Oq} (h : o.In) : R_CheckOp_t o = some (formO o, ()) := by
 obtain ⟨_, hp, ha, hw, _, _⟩ := h
 unfold R_CheckOp_t formO
 rw [R_between_eq, bind_s]
 cases hk : betw o.kind 1 5
 ·rfl
 obtain ⟨hk1, hk2⟩ := betw_iff.1 hk
 simp only [Bool.not_true, br_false, Bool.true_eq_false, if_false, br_sb, bind_s]
 have e : ∀ a b : Option (Int × Unit), br (bif (bif (bif (bif (bif !decide (o.kind = 1) then !(eqPf o.pf ⟨⟨false, 0, 0⟩, 0⟩) else false) then true else (bif !decide (o.kind = 2) then !(eqAd o.ad ⟨false, 0, 0⟩) else false))
  then true else (bif !decide (o.kind = 3) then (bif !decide (o.kind = 4) then strcmp .neq o.who ByteArray.empty else false) else false))
  then true else (bif !decide (o.kind = 3) then !decide (o.of_ = 0) else false))
  then true else (bif !decide (o.kind = 3) then (bif !decide (o.kind = 5) then !decide (o.n = 0) else false) else false)) a b = br (extraO o) a b := fun _ _ => rfl
 rw [e]
 cases extraO o
 rotate_left
 ·rfl
 simp only [br_false, Bool.false_eq_true, if_false]
 by_cases k1 : o.kind = 1
 ·rw [decide_eq_true k1, br_true, if_pos k1, R_CheckPrefix_eq hp, bind_s]
  by_cases hc : chkP o.pf = 0
  ·simp only [hc, decide_true, br_true, ne_eq, not_true, if_false, R_IsNarrow_eq hc, bind_s]
   by_cases hn : ((wid o.pf.ad.v6 : Nat) : Int) - o.pf.bits ≤ 4 <;> simp [hn, br_true, br_false]
  ·simp only [hc, decide_false, br_false, bind_s, ne_eq, not_false_eq_true, if_true]
 rw [decide_eq_false k1, br_false, if_neg k1]
 by_cases k2 : o.kind = 2
 ·rw [decide_eq_true k2, br_true, if_pos k2, R_CheckAddr_eq ha, bind_s]
 rw [decide_eq_false k2, br_false, if_neg k2]
 by_cases k3 : o.kind = 3
 ·simp only [k3, decide_true, br_true, R_IsWho_eq hw, bind_s, R_between_eq, br_sb, show decide ((3 : Int) < 5) = true from rfl, show decide ((3 : Int) = 5) = false from rfl, br_false]
  cases whoOk o.who <;> cases betw o.of_ 0 2 <;> cases betw o.n 1 500 <;> simp [br_true, br_false]
 ·by_cases k4 : o.kind = 4
  ·simp only [k4, R_IsWho_eq hw, bind_s, show decide ((4 : Int) < 5) = true from rfl, show decide ((4 : Int) = 5) = false from rfl, show decide ((4 : Int) = 3) = false from rfl, br_false, br_true]
   cases whoOk o.who <;> simp [br_true, br_false]
  ·have k5 : o.kind = 5 := by omega
   simp only [k5, R_between_eq, bind_s, show decide ((5 : Int) < 5) = false from rfl, show decide ((5 : Int) = 5) = true from rfl, show decide ((5 : Int) = 3) = false from rfl, br_false, br_true]
   cases betw o.n 0 9999 <;> simp [br_true, br_false]
end Go.Ma
namespace Go.Ma
open Go
section
variable {α A R : Type}
theorem idx_loop {step : (A → Option R) → A → Option R} (b : List α) (q : α → Bool) (mk : Nat → A) (out : Option Nat → R) (hlen : b.length < 9223372036854775808)
  (h : ∀ (rec : A → Option R) (i : Nat) (x : α), b[i]? = some x → i < b.length → step rec (mk i) = if q x then some (out (some i)) else rec (mk (i + 1)))
  (hend : ∀ rec : A → Option R, step rec (mk b.length) = some (out none)) : loopN step FUEL (mk 0) = some (out (firstF q b)) := by
 have := loop_up (step := step) mk b.length (fun i => some (out ((firstF q (b.drop i)).map (· + i)))) (fun rec i hi hr => ?_) (fun rec => ?_) FUEL 0 (Nat.zero_le _) (fuel_gt (by omega))
 ·rw [List.drop_zero, show (fun x => x + 0) = (id : Nat → Nat) from rfl, Option.map_id] at this
  exact this
 ·obtain ⟨e, he⟩ : ∃ e, b[i]? = some e := ⟨_, List.getElem?_eq_getElem hi⟩
  rw [h rec i e he hi, firstF_at he]
  cases q e
  ·rw [if_neg (by simp), if_neg (by simp), hr]
  ·rw [if_pos rfl, if_pos rfl]
 ·rw [hend, List.drop_of_length_le (Nat.le_refl _)]
  rfl
theorem bin_loop {step : (A → Option R) → A → Option R} (n pos : Nat) (hp : pos ≤ n) (hn : n < 9223372036854775808) (mk : Nat → Nat → A) (out : R)
  (h : ∀ (rec : A → Option R) (i j : Nat), i < j → i ≤ pos → pos ≤ j → j ≤ n → step rec (mk i j) = if (i + j) / 2 < pos then rec (mk ((i + j) / 2 + 1) j) else rec (mk i ((i + j) / 2)))
  (hend : ∀ rec : A → Option R, step rec (mk pos pos) = some out) : loopN step FUEL (mk 0 n) = some out := by
 have key : ∀ (N i j : Nat), j - i < N → i ≤ pos → pos ≤ j → j ≤ n → loopN step N (mk i j) = some out := by
  intro N
  induction N with
  | zero => intro i j h; omega
  | succ N ih =>
   intro i j hN h1 h2 h3
   rw [loopN_succ]
   by_cases hij : i < j
   ·rw [h _ i j hij h1 h2 h3]
    by_cases hh : (i + j) / 2 < pos
    ·rw [if_pos hh]; exact ih _ _ (by omega) (by omega) h2 h3
    ·rw [if_neg hh]; exact ih _ _ (by omega) h1 (by omega) (by omega)
   ·have : i = pos := by omega
    have : j = pos := by omega
    subst i j
    exact hend _
 exact key FUEL 0 n (fuel_gt (by omega)) (Nat.zero_le _) hp (Nat.le_refl _)
theorem bub_loop {step : (A → Option R) → A → Option R} (l : List α) (x : α) (p : Nat) (hp : p ≤ l.length) (hn : l.length < 9223372036854775808) (mk : Nat → List α → A) (out : R)
  (h : ∀ (rec : A → Option R) (k : Nat), p < k → k ≤ l.length → step rec (mk k (l.take k ++ x :: l.drop k)) = rec (mk (k - 1) (l.take (k - 1) ++ x :: l.drop (k - 1))))
  (hend : ∀ rec : A → Option R, step rec (mk p (l.take p ++ x :: l.drop p)) = some out) : loopN step FUEL (mk l.length (l ++ [x])) = some out := by
 have key : ∀ (N k : Nat), k < N → p ≤ k → k ≤ l.length → loopN step N (mk k (l.take k ++ x :: l.drop k)) = some out := by
  intro N
  induction N with
  | zero => intro k h; omega
  | succ N ih =>
   intro k hN h1 h2
   rw [loopN_succ]
   by_cases hk : p < k
   ·rw [h _ k hk h2]; exact ih _ (by omega) (by omega) (by omega)
   ·have : k = p := by omega
    subst this
    exact hend _
 have := key FUEL l.length (fuel_gt (by omega)) hp (Nat.le_refl _)
 rwa [List.take_length, List.drop_length] at this
theorem bub_swap (l : List α) (x : α) (k : Nat) (y : α) (hk : 0 < k) (hl : k ≤ l.length) (hy : l[k - 1]? = some y) : ((l.take k ++ x :: l.drop k).set k y).set (k - 1) x = l.take (k - 1) ++ x :: l.drop (k - 1) := by
 obtain ⟨h1, h2⟩ := List.getElem?_eq_some_iff.1 hy
 have ht : l.take k = l.take (k - 1) ++ [y] := by
  have := List.take_succ_eq_append_getElem h1
  rw [show k - 1 + 1 = k by omega] at this
  rw [this, h2]
 have hd : l.drop (k - 1) = y :: l.drop k := by
  have := List.drop_eq_getElem_cons h1
  rw [show k - 1 + 1 = k by omega] at this
  rw [this, h2]
 have hlen : (l.take (k - 1)).length = k - 1 := by rw [List.length_take]; omega
 rw [ht, hd, List.append_assoc, List.set_append, if_neg (by omega), hlen, show k - (k - 1) = 1 by omega]
 rw [List.set_append, if_neg (by omega), hlen, Nat.sub_self]
 rfl
theorem bub_at (l : List α) (x : α) (k : Nat) (hl : k ≤ l.length) : (l.take k ++ x :: l.drop k)[k]? = some x := by
 have hlen : (l.take k).length = k := by rw [List.length_take]; omega
 rw [List.getElem?_append_right (by omega), hlen, Nat.sub_self]
 rfl
theorem bub_pre (l : List α) (x : α) (k j : Nat) (hj : j < k) (hl : k ≤ l.length) : (l.take k ++ x :: l.drop k)[j]? = l[j]? := by
 rw [List.getElem?_append_left (by rw [List.length_take]; omega), List.getElem?_take, if_pos hj]
theorem bub_len (l : List α) (x : α) (k : Nat) (hl : k ≤ l.length) : (l.take k ++ x :: l.drop k).length = l.length + 1 := by
 simp only [List.length_append, List.length_take, List.length_cons, List.length_drop]; omega
theorem flt_loop {step : (A → Option R) → A → Option R} (b : List α) (q : α → Bool) (mk : Nat → List α → A) (out : List α → R) (hlen : b.length < 9223372036854775808)
  (h : ∀ (rec : A → Option R) (i : Nat) (x : α) (acc : List α), b[i]? = some x → i < b.length → acc.length ≤ i → step rec (mk i acc) = rec (mk (i + 1) (if q x then acc ++ [x] else acc)))
  (hend : ∀ (rec : A → Option R) (acc : List α), step rec (mk b.length acc) = some (out acc)) : loopN step FUEL (mk 0 []) = some (out (b.filter q)) := by
 have := loop_up (step := step) (fun i => mk i ((b.take i).filter q)) b.length (fun _ => some (out (b.filter q))) (fun rec i hi hr => ?_) (fun rec => ?_) FUEL 0 (Nat.zero_le _) (fuel_gt (by omega))
 ·simpa using this
 ·obtain ⟨e, he⟩ : ∃ e, b[i]? = some e := ⟨_, List.getElem?_eq_getElem hi⟩
  have hle : ((b.take i).filter q).length ≤ i := Nat.le_trans (List.length_filter_le _ _) (by simp; omega)
  rw [h rec i e _ he hi hle]
  have ht : b.take (i + 1) = b.take i ++ [e] := by
   rw [List.take_succ_eq_append_getElem hi, (List.getElem?_eq_some_iff.1 he).2]
  rw [ht] at hr
  rw [← hr, List.filter_append]
  congr 2
  cases hq : q e <;> simp [List.filter, hq]
 ·rw [hend, List.take_length]
end
theorem padL_id {α : Type} (ls : List (List α)) : padL ls.length ls = ls := by simp [padL]
theorem padL_of {α : Type} {ls : List (List α)} {n : Nat} (h : ls.length = n) : padL n ls = ls := by subst h; exact padL_id ls
theorem getL_nat {α : Type} (ls : List (List α)) (i : Nat) : getL ls (i : Int) = ls.getD i [] := by
 unfold getL
 rw [if_pos (by omega)]
 rfl
def pfIn (l : List Pf) : Prop := ∀ p ∈ l, p.In ∧ chkP p = 0
def poolIx (ps : List Pf) (a : Ad) : Option Nat := firstF (fun p => holds p a) ps
theorem prefix_Meet_eq {p q : Pf} (hp : p.In) (hq : q.In) (cp : chkP p = 0) (cq : chkP q = 0) : prefix_Meet_t p q = some (over p q || over q p, ()) := by
 unfold prefix_Meet_t
 rw [prefix_Over_eq cp hq, bind_s, prefix_Over_eq cq hp]
 cases over p q <;> rfl
theorem R_DoMeet_eq {p q : Pf} (hp : p.In) (hq : q.In) (cp : chkP p = 0) (cq : chkP q = 0) : R_DoMeet_t p q = some (over p q || over q p, ()) := by
 unfold R_DoMeet_t
 rw [R_HasPrefix_eq hp cp hq (chkP_ad cq), bind_s, R_HasPrefix_eq hq cq hp (chkP_ad cp)]
 cases over p q <;> rfl
theorem state_poolOf_eq {ps : List Pf} (hp : pfIn ps) (hlen : ps.length ≤ 1048576) (ks : List (List Ad)) (ls : List Ls) (now : Int) {a : Ad} (ha : a.In) : state_poolOf_t (ps, ks) ls now a = some (idxI (poolIx ps a), ()) := by
 unfold state_poolOf_t
 have := idx_loop (step := zq64) ps (fun p => holds p a) (fun i => (((), (), (lenL ps, ()), ((i : Int), ()), ()), (ks, ps, ls, (now, ()), (a, ()), ())))
  (fun o => match o with | some i => Sum.inl ((((i : Int), ()), ()), (ks, ps, ls, (now, ()), (a, ()), ())) | none => Sum.inr ((), (ks, ps, ls, (now, ()), (a, ()), ()))) (by omega) (fun rec i x hx hi => ?_) (fun rec => ?_)
 ·rw [show ((0 : Nat) : Int) = 0 from rfl] at this
  simp only
  rw [this, bind_s]
  unfold poolIx
  cases firstF (fun p => holds p a) ps <;> rfl
 ·obtain ⟨h1, h2⟩ := hp x (List.mem_of_getElem? hx)
  obtain ⟨b1, b2⟩ := chkP_bits h2
  simp only [zq64]
  rw [decide_eq_true (show (i : Int) < lenL ps by unfold lenL; omega), br_true, req_of (zq12 (by omega) (by unfold lenL; omega)), geti_at hx, bind_s, state_poolOf_1_t, prefix_Holds_eq b1 b2 ha, bind_s, bind_s]
  cases holds x a
  ·rw [show ((i : Int) + 1) = ((i + 1 : Nat) : Int) by omega, br_false, req_of (i64ok_of (by omega) (by omega)), if_neg (by simp)]
  ·rw [br_true, if_pos rfl]
 ·simp only [zq64]
  rw [decide_eq_false (show ¬ (ps.length : Int) < lenL ps by unfold lenL; omega), br_false]
theorem R_PoolAt_eq {ps : List Pf} (hp : pfIn ps) (hlen : ps.length ≤ 1048576) (ks : List (List Ad)) (ls : List Ls) (now : Int) {a : Ad} (ha : a.In) (ca : chkA a = 0) : R_PoolAt_t (ps, ks) ls now a = some (idxI (poolIx ps a), ()) := by
 unfold R_PoolAt_t
 have := idx_loop (step := R_PoolAt_L2) ps (fun p => holds p a) (fun i => (((), (), ((i : Int), ()), ()), (ks, ps, ls, (now, ()), (a, ()), ())))
  (fun o => match o with | some i => Sum.inl ((((i : Int), ()), ()), (ks, ps, ls, ())) | none => Sum.inr ((), (ks, ps, ls, ()))) (by omega) (fun rec i x hx hi => ?_) (fun rec => ?_)
 ·rw [show ((0 : Nat) : Int) = 0 from rfl] at this
  simp only
  rw [this, bind_s]
  unfold poolIx
  cases firstF (fun p => holds p a) ps <;> rfl
 ·obtain ⟨h1, h2⟩ := hp x (List.mem_of_getElem? hx)
  have r1 : inRange (i : Int) (lenL ps) = true := zq12 (by omega) (by unfold lenL; omega)
  simp only [R_PoolAt_L2]
  rw [decide_eq_true (show (i : Int) < lenL ps by unfold lenL; omega), br_true, req_of r1, req_of r1, geti_at hx, bind_s, R_HasAddr_eq h1 h2 ha ca, bind_s]
  cases holds x a
  ·rw [show ((i : Int) + 1) = ((i + 1 : Nat) : Int) by omega, br_false, req_of (i64ok_of (by omega) (by omega)), if_neg (by simp)]
  ·rw [br_true, if_pos rfl]
 ·simp only [R_PoolAt_L2]
  rw [decide_eq_false (show ¬ (ps.length : Int) < lenL ps by unfold lenL; omega), br_false]
def meets (p q : Pf) : Bool := over p q || over q p
def poolsF : List Pf → List (List Ad) → Int
 | [], _ => 0
 | p :: r, ks => if chkPool p (ks.headD []) ≠ 0 then chkPool p (ks.headD []) else poolsF r ks.tail
def adjOk : List Pf → Bool
 | p :: q :: r => decide (ordP p q < 0) && (!meets p q && adjOk (q :: r))
 | _ => true
def stF' (ps : List Pf) (now : Int) : List Ls → List Ls → Int
 | _, [] => 0
 | bf, x :: r => if (poolIx ps x.ad).isNone = true then 5 else if bf.any (whoP x.who) = true then 6 else if x.upto < now then 4 else stF' ps now (bf ++ [x]) r
def chkS (ps : List Pf) (ks : List (List Ad)) (ls : List Ls) (now : Int) : Int :=
 if ps.length > 3 then 2 else if poolsF ps ks ≠ 0 then poolsF ps ks else if adjOk ps = false then 4 else if betw now 0 9999 = false then 3
 else if allC ls now ≠ 0 then allC ls now else stF' ps now [] ls
theorem poolsF_all : ∀ {ps : List Pf} {ks : List (List Ad)}, poolsF ps ks = 0 → ∀ (i : Nat) (p : Pf), ps[i]? = some p → chkPool p (ks.getD i []) = 0
 | [], _, _, i, p, h => by simp at h
 | q :: r, ks, h, i, p, hp => by
  unfold poolsF at h
  by_cases hc : chkPool q (ks.headD []) = 0
  ·rw [if_neg (fun h => h hc)] at h
   match i with
   | 0 =>
    simp only [List.getElem?_cons_zero, Option.some.injEq] at hp
    subst hp
    cases ks <;> exact hc
   | i + 1 =>
    simp only [List.getElem?_cons_succ] at hp
    have := poolsF_all h i p hp
    cases ks <;> simpa using this
  ·rw [if_pos hc] at h; exact absurd h hc
theorem pools_at {ps : List Pf} {ks : List (List Ad)} {i : Nat} {p : Pf} (h : ps[i]? = some p) : poolsF (ps.drop i) (ks.drop i) = if chkPool p (ks.getD i []) ≠ 0 then chkPool p (ks.getD i []) else poolsF (ps.drop (i + 1)) (ks.drop (i + 1)) := by
 rw [drop_cons h, poolsF]
 have e1 : (ks.drop i).headD [] = ks.getD i [] := by
  rw [List.getD_eq_getElem?_getD, List.headD_eq_head?_getD, List.head?_drop]
 have e2 : (ks.drop i).tail = ks.drop (i + 1) := by rw [List.tail_drop]
 rw [e1, e2]
end Go.Ma
namespace Go.Ma
open Go
def kV (v : Bool) : Int := if v then 1 else 0
theorem ordA_key (a b : Ad) : (ordA a b < 0 ↔ kV a.v6 < kV b.v6 ∨ (kV a.v6 = kV b.v6 ∧ (a.hi < b.hi ∨ (a.hi = b.hi ∧ a.lo < b.lo)))) ∧ (ordA a b = 0 ↔ kV a.v6 = kV b.v6 ∧ a.hi = b.hi ∧ a.lo = b.lo) := by
 unfold ordA ordI kV
 cases a.v6 <;> cases b.v6 <;> simp <;> (by_cases h1 : a.hi = b.hi <;> simp [h1] <;> constructor <;> (repeat' split) <;> omega)
theorem ordP_key (p q : Pf) : ordP p q < 0 ↔ kV p.ad.v6 < kV q.ad.v6 ∨ (kV p.ad.v6 = kV q.ad.v6 ∧ (p.ad.hi < q.ad.hi ∨ (p.ad.hi = q.ad.hi ∧ (p.ad.lo < q.ad.lo ∨ (p.ad.lo = q.ad.lo ∧ p.bits < q.bits))))) := by
 obtain ⟨h1, h2⟩ := ordA_key p.ad q.ad
 unfold ordP
 split <;> omega
theorem kV_inj {v w : Bool} (h : kV v = kV w) : v = w := by cases v <;> cases w <;> first | rfl | (exact absurd h (by decide))
theorem ordP_trans {p q r : Pf} (h1 : ordP p q < 0) (h2 : ordP q r < 0) : ordP p r < 0 := by
 rw [ordP_key] at h1 h2 ⊢
 omega
theorem ordP_self (p : Pf) : ordP p p = 0 := by
 have h := (ordA_key p.ad p.ad).2.2 ⟨rfl, rfl, rfl⟩
 unfold ordP
 rw [if_neg (fun h' => h' h)]
 omega
end Go.Ma
namespace Go.Ma
open Go
section
variable {A R : Type}
theorem chk_loop {step : (A → Option R) → A → Option R} (n i0 : Nat) (hi0 : i0 ≤ n) (hn : n < 9223372036854775808) (c F : Nat → Int) (mk : Nat → A) (ok : R) (err : Int → R)
  (hF : ∀ i, i0 ≤ i → i < n → F i = if c i ≠ 0 then c i else F (i + 1)) (hFn : F n = 0)
  (h : ∀ (rec : A → Option R) (i : Nat), i0 ≤ i → i < n → (∀ j, i0 ≤ j → j < i → c j = 0) → step rec (mk i) = if c i ≠ 0 then some (err (c i)) else rec (mk (i + 1)))
  (hend : ∀ rec : A → Option R, (∀ j, i0 ≤ j → j < n → c j = 0) → step rec (mk n) = some ok) : loopN step FUEL (mk i0) = some (if F i0 = 0 then ok else err (F i0)) := by
 have key : ∀ (N i : Nat), i0 ≤ i → n - i < N → i ≤ n → (∀ j, i0 ≤ j → j < i → c j = 0) → loopN step N (mk i) = some (if F i = 0 then ok else err (F i)) := by
  intro N
  induction N with
  | zero => intro i _ h; omega
  | succ N ih =>
   intro i hi hN hin hp
   rw [loopN_succ]
   by_cases hlt : i < n
   ·have e1 := hF i hi hlt
    by_cases hc : c i = 0
    ·rw [if_neg (fun h => h hc)] at e1
     rw [h _ i hi hlt hp, if_neg (fun h => h hc), e1]
     exact ih (i + 1) (by omega) (by omega) (by omega) (fun j h1 h2 => by
      by_cases hj : j = i
      ·rw [hj]; exact hc
      ·exact hp j h1 (by omega))
    ·rw [if_pos hc] at e1
     rw [h _ i hi hlt hp, if_pos hc, e1, if_neg hc]
   ·have : i = n := by omega
    subst this
    rw [hend _ hp, hFn, if_pos rfl]
 exact key FUEL i0 (Nat.le_refl _) (fuel_gt (by omega)) hi0 (fun j h1 h2 => by omega)
theorem ref_loop {step : (A → Option R) → A → Option R} (n : Nat) (hn : n < 9223372036854775808) (c F : Nat → Int) (mk : Int → Nat → A) (out : Int → R) (hF : ∀ i, i < n → F i = if c i ≠ 0 then c i else F (i + 1)) (hFn : F n = 0)
  (hstop : ∀ (rec : A → Option R) (e : Int) (i : Nat), e ≠ 0 → step rec (mk e i) = some (out e))
  (h : ∀ (rec : A → Option R) (i : Nat), i < n → (∀ j, j < i → c j = 0) → step rec (mk 0 i) = rec (mk (c i) (i + 1)))
  (hend : ∀ rec : A → Option R, step rec (mk 0 n) = some (out 0)) : loopN step FUEL (mk 0 0) = some (out (F 0)) := by
 have key : ∀ (N i : Nat), n - i + 1 < N → i ≤ n → (∀ j, j < i → c j = 0) → loopN step N (mk 0 i) = some (out (F i)) := by
  intro N
  induction N with
  | zero => intro i h; omega
  | succ N ih =>
   intro i hN hin hp
   rw [loopN_succ]
   by_cases hlt : i < n
   ·rw [h _ i hlt hp, hF i hlt]
    by_cases hc : c i = 0
    ·rw [hc, if_neg (fun h => h rfl)]
     exact ih (i + 1) (by omega) (by omega) (fun j h1 => by
      by_cases hj : j = i
      ·rw [hj]; exact hc
      ·exact hp j (by omega))
    ·rw [if_pos hc]
     match N, hN with
     | N + 1, _ => rw [loopN_succ, hstop _ _ _ hc]
   ·have : i = n := by omega
    subst this
    rw [hend, hFn]
 exact key FUEL 0 (fuel_gt (by omega)) (Nat.zero_le _) (fun j h1 => by omega)
end
theorem ordP_zero {p q : Pf} (h1 : ¬ ordP p q < 0) (h2 : ¬ ordP q p < 0) : ordP q p = 0 := by
 rw [ordP_key] at h1 h2
 have h3 := (ordA_key q.ad p.ad).2.2 (by omega)
 unfold ordP
 rw [if_neg (fun h' => h' h3)]
 omega
theorem ordP_pos {p q : Pf} : ordP q p > 0 ↔ ordP p q < 0 := by
 constructor
 ·intro h
  by_cases h1 : ordP p q < 0
  ·exact h1
  ·have := ordP_zero h1 (by omega : ¬ ordP q p < 0)
   omega
 ·intro h
  by_cases h1 : ordP q p < 0
  ·have := ordP_trans h h1
   rw [ordP_self] at this
   omega
  ·by_cases h0 : ordP q p = 0
   ·rw [ordP_key] at h
    by_cases hA : ordA q.ad p.ad = 0
    ·have h5 := (ordA_key q.ad p.ad).2.1 hA
     unfold ordP at h0
     rw [if_neg (fun h' => h' hA)] at h0
     omega
    ·unfold ordP at h0
     rw [if_pos hA] at h0
     exact absurd h0 hA
   ·omega
theorem aheadP_iff {p q : Pf} (hp : p.In) (hq : q.In) : aheadP p q = decide (ordP p q < 0) := by
 rw [← ord_ahead hp hq]
 exact decide_eq_decide.2 ordP_pos
theorem ordP_rank {p q : Pf} (hp : p.In) (hq : q.In) (h : ordP p q < 0) : rank p.ad ≤ rank q.ad := by
 obtain ⟨h1, h2⟩ := ord_rank hp.1 hq.1
 unfold ordP at h
 split at h
 ·have := h1.1 h; omega
 ·rename_i h3
  have := h2.1 (Decidable.not_not.1 h3); omega
theorem rank_parts {a b : Ad} (ha : a.In) (hb : b.In) (h : rank a ≤ rank b) (hv : a.v6 = b.v6) : a.num ≤ b.num := by
 unfold rank at h
 rw [hv] at h
 omega
theorem rank_v6 {a b c : Ad} (ha : a.In) (hb : b.In) (hc : c.In) (h : rank a ≤ rank b) (h2 : rank b ≤ rank c) (hv : a.v6 = c.v6) : a.v6 = b.v6 ∧ b.v6 = c.v6 := by
 have h3 := num_lt ha
 have h4 := num_lt hb
 have h5 := num_lt hc
 unfold rank at h h2
 rw [← hv] at h2 ⊢
 cases hav : a.v6 <;> cases hbv : b.v6 <;> simp only [hav, hbv, if_true, Bool.false_eq_true, if_false] at h h2 <;> first | exact ⟨rfl, rfl⟩ | (exfalso; omega)
theorem meets_comm (p q : Pf) : meets p q = meets q p := by unfold meets; exact Bool.or_comm _ _
theorem meets_of {p q : Pf} (hp : p.In) (hq : q.In) (cp : chkP p = 0) (cq : chkP q = 0) (hv : p.ad.v6 = q.ad.v6) (h1 : q.ad.num ≤ p.ad.num + (2 ^ free p - 1)) (h2 : p.ad.num ≤ q.ad.num + (2 ^ free q - 1)) : meets p q = true := by
 unfold meets
 by_cases hb : p.bits ≤ q.bits
 ·rw [apart_one hp hq cp cq hv h1 h2 hb]; rfl
 ·rw [apart_one hq hp cq cp hv.symm h2 h1 (by omega)]; simp
theorem meets_iff {p q : Pf} (hp : p.In) (hq : q.In) (cp : chkP p = 0) (cq : chkP q = 0) : meets p q = true ↔ p.ad.v6 = q.ad.v6 ∧ q.ad.num ≤ p.ad.num + (2 ^ free p - 1) ∧ p.ad.num ≤ q.ad.num + (2 ^ free q - 1) := by
 constructor
 ·intro h
  unfold meets at h
  rw [Bool.or_eq_true] at h
  have e1 := Nat.two_pow_pos (free p)
  have e2 := Nat.two_pow_pos (free q)
  rcases h with h | h
  ·obtain ⟨h1, h2, h3⟩ := (holds_span hp cp hq.1).1 (over_iff.1 h).2
   exact ⟨h1, by omega, by omega⟩
  ·obtain ⟨h1, h2, h3⟩ := (holds_span hq cq hp.1).1 (over_iff.1 h).2
   exact ⟨h1.symm, by omega, by omega⟩
 ·rintro ⟨h1, h2, h3⟩
  exact meets_of hp hq cp cq h1 h2 h3
theorem meets_between {p q r : Pf} (hp : p.In) (hq : q.In) (hr : r.In) (cp : chkP p = 0) (cq : chkP q = 0) (cr : chkP r = 0) (h1 : ordP p q < 0) (h2 : ordP q r < 0) (h : meets p r = true) : meets p q = true := by
 obtain ⟨m1, m2, m3⟩ := (meets_iff hp hr cp cr).1 h
 have r1 := ordP_rank hp hq h1
 have r2 := ordP_rank hq hr h2
 obtain ⟨v1, v2⟩ := rank_v6 hp.1 hq.1 hr.1 r1 r2 m1
 have n1 := rank_parts hp.1 hq.1 r1 v1
 have n2 := rank_parts hq.1 hr.1 r2 v2
 exact meets_of hp hq cp cq v1 (by omega) (by omega)
def apartP (p q : Pf) : Prop := ordP p q < 0 ∧ meets p q = false
theorem adj_pair : ∀ {ps : List Pf}, pfIn ps → (adjOk ps = true ↔ ps.Pairwise apartP)
 | [], _ => by simp [adjOk]
 | [p], _ => by simp [adjOk]
 | p :: q :: r, h => by
  have h' : pfIn (q :: r) := fun x hx => h x (List.mem_cons_of_mem _ hx)
  have ih := adj_pair h'
  have hp := h p List.mem_cons_self
  have hq := h q (List.mem_cons_of_mem _ List.mem_cons_self)
  simp only [adjOk, Bool.and_eq_true, decide_eq_true_eq, Bool.not_eq_true']
  rw [ih]
  constructor
  ·rintro ⟨h1, h2, h3⟩
   refine List.pairwise_cons.2 ⟨fun x hx => ?_, h3⟩
   rcases List.mem_cons.1 hx with rfl | hx
   ·exact ⟨h1, h2⟩
   ·have hqx := (List.pairwise_cons.1 h3).1 x hx
    have hxi := h' x (List.mem_cons_of_mem _ hx)
    refine ⟨ordP_trans h1 hqx.1, ?_⟩
    cases hm : meets p x
    ·rfl
    ·rw [meets_between hp.1 hq.1 hxi.1 hp.2 hq.2 hxi.2 h1 hqx.1 hm] at h2
     cases h2
  ·intro hh
   obtain ⟨h1, h2⟩ := List.pairwise_cons.1 hh
   have := h1 q List.mem_cons_self
   exact ⟨this.1, this.2, h2⟩
def kpIn (ks : List (List Ad)) : Prop := ∀ k ∈ ks, adIn k
theorem kp_at {ks : List (List Ad)} (h : kpIn ks) (i : Nat) : adIn (ks.getD i []) := by
 rw [List.getD_eq_getElem?_getD]
 cases he : ks[i]? with
 | none => intro a ha; cases ha
 | some k => exact h k (List.mem_of_getElem? he)
def cPool (ps : List Pf) (ks : List (List Ad)) (i : Nat) : Int := match ps[i]? with | some p => chkPool p (ks.getD i []) | none => 0
theorem cPool_at {ps : List Pf} {ks : List (List Ad)} {i : Nat} {p : Pf} (h : ps[i]? = some p) : cPool ps ks i = chkPool p (ks.getD i []) := by unfold cPool; rw [h]
theorem chk_loop4 {ps : List Pf} (hp : ∀ p ∈ ps, p.In) {ks : List (List Ad)} (hk : kpIn ks) (hlen : ps.length ≤ 1048576) (ls : List Ls) (now : Int) :
  loopN state_Check_L4 FUEL (((), (), (lenL ps, ()), (0, ()), ()), (ks, ps, ls, (now, ()), ())) = some (if poolsF ps ks = 0 then Sum.inr (((), ()), (ks, ps, ls, (now, ()), ())) else Sum.inl (((poolsF ps ks, ()), ()), (ks, ps, ls, ()))) := by
 have := chk_loop (step := state_Check_L4) ps.length 0 (Nat.zero_le _) (by omega) (cPool ps ks) (fun i => poolsF (ps.drop i) (ks.drop i)) (fun i => (((), (), (lenL ps, ()), ((i : Int), ()), ()), (ks, ps, ls, (now, ()), ())))
  (Sum.inr (((), ()), (ks, ps, ls, (now, ()), ()))) (fun e => Sum.inl (((e, ()), ()), (ks, ps, ls, ()))) (fun i _ hi => ?_) (by simp [poolsF]) (fun rec i _ hi _ => ?_) (fun rec _ => ?_)
 ·simpa using this
 ·obtain ⟨e, he⟩ : ∃ e, ps[i]? = some e := ⟨_, List.getElem?_eq_getElem hi⟩
  rw [cPool_at he, ← pools_at he]
 ·obtain ⟨e, he⟩ : ∃ e, ps[i]? = some e := ⟨_, List.getElem?_eq_getElem hi⟩
  rw [cPool_at he]
  simp only [state_Check_L4]
  rw [decide_eq_true (show (i : Int) < lenL ps by unfold lenL; omega), br_true, req_of (zq12 (by omega) (by unfold lenL; omega)), geti_at he, bind_s, getL_nat, lease_Pool_eq (hp e (List.mem_of_getElem? he)) (kp_at hk i), bind_s]
  by_cases hc : chkPool e (ks.getD i []) = 0
  ·rw [decide_eq_true hc, if_neg (fun h => h hc), Bool.not_true, br_false, show ((i : Int) + 1) = ((i + 1 : Nat) : Int) by omega, req_of (i64ok_of (by omega) (by omega))]
  ·rw [decide_eq_false hc, if_pos hc, Bool.not_false, br_true]
 ·simp only [state_Check_L4]
  rw [decide_eq_false (show ¬ (ps.length : Int) < lenL ps by unfold lenL; omega), br_false]
theorem rchk_loop4 {ps : List Pf} (hp : ∀ p ∈ ps, p.In) {ks : List (List Ad)} (hk : kpIn ks) (hlen : ps.length ≤ 1048576) (ls : List Ls) (now : Int) :
  loopN R_CheckState_L4 FUEL (((), (0, ()), ()), (ks, ps, ls, (now, ()), ())) = some (if poolsF ps ks = 0 then Sum.inr (((), ()), (ks, ps, ls, (now, ()), ())) else Sum.inl (((poolsF ps ks, ()), ()), (ks, ps, ls, ()))) := by
 have := chk_loop (step := R_CheckState_L4) ps.length 0 (Nat.zero_le _) (by omega) (cPool ps ks) (fun i => poolsF (ps.drop i) (ks.drop i)) (fun i => (((), ((i : Int), ()), ()), (ks, ps, ls, (now, ()), ())))
  (Sum.inr (((), ()), (ks, ps, ls, (now, ()), ()))) (fun e => Sum.inl (((e, ()), ()), (ks, ps, ls, ()))) (fun i _ hi => ?_) (by simp [poolsF]) (fun rec i _ hi _ => ?_) (fun rec _ => ?_)
 ·simpa using this
 ·obtain ⟨e, he⟩ : ∃ e, ps[i]? = some e := ⟨_, List.getElem?_eq_getElem hi⟩
  rw [cPool_at he, ← pools_at he]
 ·obtain ⟨e, he⟩ : ∃ e, ps[i]? = some e := ⟨_, List.getElem?_eq_getElem hi⟩
  rw [cPool_at he]
  simp only [R_CheckState_L4]
  rw [decide_eq_true (show (i : Int) < lenL ps by unfold lenL; omega), br_true, req_of (zq12 (by omega) (by unfold lenL; omega)), geti_at he, bind_s, getL_nat, R_CheckPool_eq (hp e (List.mem_of_getElem? he)) (kp_at hk i), bind_s]
  by_cases hc : chkPool e (ks.getD i []) = 0
  ·rw [decide_eq_true hc, if_neg (fun h => h hc), Bool.not_true, br_false, show ((i : Int) + 1) = ((i + 1 : Nat) : Int) by omega, req_of (i64ok_of (by omega) (by omega))]
  ·rw [decide_eq_false hc, if_pos hc, Bool.not_false, br_true]
 ·simp only [R_CheckState_L4]
  rw [decide_eq_false (show ¬ (ps.length : Int) < lenL ps by unfold lenL; omega), br_false]
theorem adj_at {ps : List Pf} {i : Nat} (h1 : 1 ≤ i) {p q : Pf} (hp : ps[i - 1]? = some p) (hq : ps[i]? = some q) : adjOk (ps.drop (i - 1)) = (decide (ordP p q < 0) && (!meets p q && adjOk (ps.drop i))) := by
 have e : ps.drop i = q :: ps.drop (i + 1) := drop_cons hq
 have e2 : ps.drop (i - 1) = p :: ps.drop i := by
  have := drop_cons hp
  rwa [show i - 1 + 1 = i by omega] at this
 rw [e2, e, adjOk]
def adjI (ps : List Pf) (i : Nat) : Int := if adjOk (ps.drop (i - 1)) = true then 0 else 4
def cAdj (ps : List Pf) (i : Nat) : Int := match ps[i - 1]?, ps[i]? with | some p, some q => if ordP p q < 0 ∧ meets p q = false then 0 else 4 | _, _ => 0
theorem chk_loop11 {ps : List Pf} (hp : pfIn ps) (ks : List (List Ad)) (hlen : ps.length ≤ 1048576) (ls : List Ls) (now : Int) :
  loopN state_Check_L11 FUEL (((), (1, ()), ()), (ks, ps, ls, (now, ()), ())) = some (if adjOk ps = true then Sum.inr (((), ()), (ks, ps, ls, (now, ()), ())) else Sum.inl (((4, ()), ()), (ks, ps, ls, ()))) := by
 by_cases h0 : ps.length = 0
 ·have : ps = [] := List.eq_nil_of_length_eq_zero h0
  subst this
  rfl
 have := chk_loop (step := state_Check_L11) ps.length 1 (by omega) (by omega) (cAdj ps) (adjI ps) (fun i => (((), ((i : Int), ()), ()), (ks, ps, ls, (now, ()), ())))
  (Sum.inr (((), ()), (ks, ps, ls, (now, ()), ()))) (fun e => Sum.inl (((e, ()), ()), (ks, ps, ls, ()))) (fun i h1 hi => ?_) ?_ (fun rec i h1 hi _ => ?_) (fun rec _ => ?_)
 ·rw [show ((1 : Nat) : Int) = 1 from rfl] at this
  rw [this]
  unfold adjI
  rw [show (1 : Nat) - 1 = 0 from rfl, List.drop_zero]
  cases adjOk ps <;> rfl
 ·obtain ⟨q, hq⟩ : ∃ e, ps[i]? = some e := ⟨_, List.getElem?_eq_getElem hi⟩
  obtain ⟨p, hp'⟩ : ∃ e, ps[i - 1]? = some e := ⟨_, List.getElem?_eq_getElem (by omega)⟩
  unfold adjI cAdj
  rw [adj_at h1 hp' hq, hp', hq, show i + 1 - 1 = i by omega]
  simp only
  by_cases ho : ordP p q < 0 <;> cases hm : meets p q <;> simp [ho]
 ·unfold adjI
  have : adjOk (ps.drop (ps.length - 1)) = true := by
   obtain ⟨p, hp'⟩ : ∃ e, ps[ps.length - 1]? = some e := ⟨_, List.getElem?_eq_getElem (by omega)⟩
   rw [drop_cons hp', show ps.length - 1 + 1 = ps.length by omega, List.drop_length]
   rfl
  rw [this]; rfl
 ·obtain ⟨q, hq⟩ : ∃ e, ps[i]? = some e := ⟨_, List.getElem?_eq_getElem hi⟩
  obtain ⟨p, hp'⟩ : ∃ e, ps[i - 1]? = some e := ⟨_, List.getElem?_eq_getElem (by omega)⟩
  obtain ⟨p1, p2⟩ := hp p (List.mem_of_getElem? hp')
  obtain ⟨q1, q2⟩ := hp q (List.mem_of_getElem? hq)
  have r1 : inRange ((i : Int) - 1) (lenL ps) = true := zq12 (by omega) (by unfold lenL; omega)
  have r2 : inRange (i : Int) (lenL ps) = true := zq12 (by omega) (by unfold lenL; omega)
  have r3 : i64ok ((i : Int) - 1) = true := i64ok_of (by omega) (by omega)
  have hg : geti ps ((i : Int) - 1) = some p := by rw [show ((i : Int) - 1) = ((i - 1 : Nat) : Int) by omega]; exact geti_at hp'
  unfold cAdj
  rw [hp', hq]
  simp only [state_Check_L11]
  simp only [r1, r2, r3, req_true, hg, geti_at hq, bind_s, prefix_Order_eq p2 q2, prefix_Meet_eq p1 q1 p2 q2]
  rw [decide_eq_true (show (i : Int) < lenL ps by unfold lenL; omega), br_true]
  by_cases ho : ordP p q < 0
  ·rw [decide_eq_false (show ¬ ordP p q ≥ 0 by omega), br_false, bind_s]
   cases hm : meets p q
   ·rw [show (over p q || over q p) = false from hm, br_false, show ((i : Int) + 1) = ((i + 1 : Nat) : Int) by omega, req_of (i64ok_of (by omega) (by omega))]
    simp [ho]
   ·rw [show (over p q || over q p) = true from hm, br_true]
    simp
  ·rw [decide_eq_true (show ordP p q ≥ 0 by omega), br_true, bind_s, br_true]
   simp [ho]
 ·simp only [state_Check_L11]
  rw [decide_eq_false (show ¬ (ps.length : Int) < lenL ps by unfold lenL; omega), br_false]
def badP (p q : Pf) : Bool := !decide (ordP p q < 0) || meets p q
def cBad (ps : List Pf) (q : Pf) (k : Nat) : Int := match ps[k]? with | some p => if badP p q = true then 4 else 0 | none => 0
def anyBad (ps : List Pf) (q : Pf) (i k : Nat) : Int := if ((ps.take i).drop k).any (fun p => badP p q) = true then 4 else 0
theorem rchk_loop13 {ps : List Pf} (hp : pfIn ps) (ks : List (List Ad)) (hlen : ps.length ≤ 1048576) (ls : List Ls) (now : Int) {i : Nat} {q : Pf} (hq : ps[i]? = some q) :
  loopN R_CheckState_L13 FUEL (((), ((i : Int), ()), (0, ()), ()), (ks, ps, ls, (now, ()), ())) = some (if (ps.take i).any (fun p => badP p q) = true then Sum.inl (((4, ()), ()), (ks, ps, ls, ())) else Sum.inr (((), ((i : Int), ()), ()), (ks, ps, ls, (now, ()), ()))) := by
 have hi := (List.getElem?_eq_some_iff.1 hq).1
 have := chk_loop (step := R_CheckState_L13) i 0 (Nat.zero_le _) (by omega) (cBad ps q) (anyBad ps q i) (fun k => (((), ((i : Int), ()), ((k : Int), ()), ()), (ks, ps, ls, (now, ()), ())))
  (Sum.inr (((), ((i : Int), ()), ()), (ks, ps, ls, (now, ()), ()))) (fun e => Sum.inl (((e, ()), ()), (ks, ps, ls, ()))) (fun k _ hk => ?_) ?_ (fun rec k _ hk _ => ?_) (fun rec _ => ?_)
 ·rw [show ((0 : Nat) : Int) = 0 from rfl] at this
  rw [this]
  unfold anyBad
  rw [List.drop_zero]
  cases (ps.take i).any (fun p => badP p q) <;> rfl
 ·obtain ⟨p, hp'⟩ : ∃ e, ps[k]? = some e := ⟨_, List.getElem?_eq_getElem (by omega)⟩
  have ht : (ps.take i)[k]? = some p := by rw [List.getElem?_take, if_pos hk, hp']
  unfold cBad anyBad
  rw [hp', drop_cons ht, List.any_cons]
  dsimp only
  by_cases hb : badP p q = true <;> simp [hb]
 ·unfold anyBad
  rw [List.drop_of_length_le (by simp; omega)]
  rfl
 ·obtain ⟨p, hp'⟩ : ∃ e, ps[k]? = some e := ⟨_, List.getElem?_eq_getElem (by omega)⟩
  obtain ⟨p1, p2⟩ := hp p (List.mem_of_getElem? hp')
  obtain ⟨q1, q2⟩ := hp q (List.mem_of_getElem? hq)
  have r1 : inRange (k : Int) (lenL ps) = true := zq12 (by omega) (by unfold lenL; omega)
  have r2 : inRange (i : Int) (lenL ps) = true := zq12 (by omega) (by unfold lenL; omega)
  unfold cBad
  rw [hp']
  simp only [R_CheckState_L13]
  simp only [r1, r2, req_true, geti_at hp', geti_at hq, bind_s, R_PrefixAhead_eq p1 q1 p2 q2, R_DoMeet_eq p1 q1 p2 q2, aheadP_iff p1 q1]
  rw [decide_eq_true (show (k : Int) < (i : Int) by omega), br_true]
  unfold badP meets
  by_cases ho : ordP p q < 0
  ·simp only [ho, decide_true, Bool.not_true, br_false, bind_s, Bool.false_or]
   cases (over p q || over q p)
   ·rw [br_false, show ((k : Int) + 1) = ((k + 1 : Nat) : Int) by omega, req_of (i64ok_of (by omega) (by omega))]
    rfl
   ·rfl
  ·simp only [ho, decide_false, Bool.not_false, br_true, bind_s, Bool.true_or]
   rfl
 ·simp only [R_CheckState_L13]
  rw [decide_eq_false (show ¬ (i : Int) < (i : Int) by omega), br_false]
def cRow (ps : List Pf) (i : Nat) : Int := match ps[i]? with | some q => if (ps.take i).any (fun p => badP p q) = true then 4 else 0 | none => 0
def rowsF (ps : List Pf) : Nat → Nat → Int
 | 0, _ => 0
 | k + 1, i => if cRow ps i ≠ 0 then cRow ps i else rowsF ps k (i + 1)
theorem cRow_two (ps : List Pf) (i : Nat) : cRow ps i = 0 ∨ cRow ps i = 4 := by
 unfold cRow
 split
 ·split <;> simp
 ·simp
theorem rows_zero (ps : List Pf) : ∀ (k i : Nat), (rowsF ps k i = 0 ∨ rowsF ps k i = 4) ∧ (rowsF ps k i = 0 ↔ ∀ j, i ≤ j → j < i + k → cRow ps j = 0)
 | 0, i => ⟨.inl rfl, fun _ j h1 h2 => by omega, fun _ => rfl⟩
 | k + 1, i => by
  obtain ⟨h1, h2⟩ := rows_zero ps k (i + 1)
  rw [rowsF]
  by_cases hc : cRow ps i = 0
  ·rw [if_neg (fun h => h hc)]
   refine ⟨h1, h2.trans ⟨fun h j g1 g2 => ?_, fun h j g1 g2 => h j (by omega) (by omega)⟩⟩
   by_cases hj : j = i
   ·rw [hj]; exact hc
   ·exact h j (by omega) (by omega)
  ·rw [if_pos hc]
   exact ⟨cRow_two ps i, fun h => absurd h hc, fun h => h i (Nat.le_refl _) (by omega)⟩
theorem pair_rows {ps : List Pf} : ps.Pairwise apartP ↔ ∀ j, j < ps.length → cRow ps j = 0 := by
 rw [List.pairwise_iff_getElem]
 constructor
 ·intro h j hj
  unfold cRow
  rw [List.getElem?_eq_getElem hj]
  simp only
  rw [if_neg]
  intro ha
  obtain ⟨p, hp, hb⟩ := List.any_eq_true.1 ha
  obtain ⟨k, hk⟩ := List.mem_iff_getElem?.1 hp
  rw [List.getElem?_take] at hk
  split at hk
  ·rename_i hkj
   obtain ⟨hk1, hk2⟩ := List.getElem?_eq_some_iff.1 hk
   obtain ⟨g1, g2⟩ := h k j hk1 hj hkj
   rw [hk2] at g1 g2
   simp [badP, g1, g2] at hb
  ·cases hk
 ·intro h k j hk hj hkj
  have := h j hj
  unfold cRow at this
  rw [List.getElem?_eq_getElem hj] at this
  simp only at this
  have hn : ¬ (ps.take j).any (fun p => badP p ps[j]) = true := fun h => by rw [if_pos h] at this; cases this
  rw [Bool.not_eq_true, List.any_eq_false] at hn
  have := hn ps[k] (List.mem_iff_getElem?.2 ⟨k, by rw [List.getElem?_take, if_pos hkj, List.getElem?_eq_getElem hk]⟩)
  unfold badP at this
  simp only [Bool.or_eq_true, Bool.not_eq_true', decide_eq_false_iff_not, not_or, Decidable.not_not, Bool.not_eq_true] at this
  exact this
theorem rchk_loop10 {ps : List Pf} (hp : pfIn ps) (ks : List (List Ad)) (hlen : ps.length ≤ 1048576) (ls : List Ls) (now : Int) :
  loopN R_CheckState_L10 FUEL (((), (0, ()), ()), (ks, ps, ls, (now, ()), ())) = some (if adjOk ps = true then Sum.inr (((), ()), (ks, ps, ls, (now, ()), ())) else Sum.inl (((4, ()), ()), (ks, ps, ls, ()))) := by
 have := chk_loop (step := R_CheckState_L10) ps.length 0 (Nat.zero_le _) (by omega) (cRow ps) (fun i => rowsF ps (ps.length - i) i) (fun i => (((), ((i : Int), ()), ()), (ks, ps, ls, (now, ()), ())))
  (Sum.inr (((), ()), (ks, ps, ls, (now, ()), ()))) (fun e => Sum.inl (((e, ()), ()), (ks, ps, ls, ()))) (fun i _ hi => ?_) (by simp [rowsF]) (fun rec i _ hi _ => ?_) (fun rec _ => ?_)
 ·rw [show ((0 : Nat) : Int) = 0 from rfl] at this
  rw [this, Nat.sub_zero]
  obtain ⟨z1, z2⟩ := rows_zero ps ps.length 0
  by_cases ha : adjOk ps = true
  ·have := pair_rows.1 ((adj_pair hp).1 ha)
   have hall : ∀ j, 0 ≤ j → j < 0 + ps.length → cRow ps j = 0 := fun j _ h => this j (by omega)
   rw [if_pos ha, if_pos (z2.2 hall)]
  ·have hall : ¬ ∀ j, 0 ≤ j → j < 0 + ps.length → cRow ps j = 0 := fun h => ha ((adj_pair hp).2 (pair_rows.2 fun j hj => h j (Nat.zero_le _) (by omega)))
   have hz : ¬ rowsF ps ps.length 0 = 0 := fun h => hall (z2.1 h)
   rw [if_neg ha, if_neg hz, z1.resolve_left hz]
 ·show rowsF ps (ps.length - i) i = _
  rw [show ps.length - i = (ps.length - (i + 1)) + 1 by omega, rowsF]
 ·obtain ⟨q, hq⟩ : ∃ e, ps[i]? = some e := ⟨_, List.getElem?_eq_getElem hi⟩
  unfold cRow
  rw [hq]
  simp only [R_CheckState_L10]
  rw [decide_eq_true (show (i : Int) < lenL ps by unfold lenL; omega), br_true, rchk_loop13 hp ks hlen ls now hq, bind_s]
  cases (ps.take i).any (fun p => badP p q)
  ·show req (i64ok ((i : Int) + 1)) _ = _
   rw [show ((i : Int) + 1) = ((i + 1 : Nat) : Int) by omega, req_of (i64ok_of (by omega) (by omega))]
   rfl
  ·rfl
 ·simp only [R_CheckState_L10]
  rw [decide_eq_false (show ¬ (ps.length : Int) < lenL ps by unfold lenL; omega), br_false]
end Go.Ma
namespace Go.Ma
open Go
theorem loop_stop {A R : Type} {step : (A → Option R) → A → Option R} {x : A} {r : Option R} (h : ∀ rec, step rec x = r) : loopN step FUEL x = r := by
 have : FUEL = (FUEL - 1) + 1 := by
  have := fuel_gt (n := 0) (by omega)
  omega
 rw [this, loopN_succ, h]
theorem twice_zero {l : List Ls} : ∀ i : Nat, i ≤ l.length → (∀ (j : Nat) (x : Ls), j < i → l[j]? = some x → (l.take j).any (whoP x.who) = false) → twiceL [] (l.take i) = false
 | 0, _, _ => rfl
 | i + 1, hi, h => by
  obtain ⟨x, hx⟩ : ∃ e, l[i]? = some e := ⟨_, List.getElem?_eq_getElem (by omega)⟩
  rw [take_at hx, twiceL_app, twice_zero i (by omega) (fun j x hj => h j x (by omega)), h i x (by omega) hx]
  rfl
def cLs (ps : List Pf) (now : Int) (ls : List Ls) (i : Nat) : Int := match ls[i]? with | some x => if (poolIx ps x.ad).isNone = true then 5 else if (ls.take i).any (whoP x.who) = true then 6 else if x.upto < now then 4 else 0 | none => 0
theorem cLs_at {ps : List Pf} {now : Int} {ls : List Ls} {i : Nat} {x : Ls} (h : ls[i]? = some x) : cLs ps now ls i = if (poolIx ps x.ad).isNone = true then 5 else if (ls.take i).any (whoP x.who) = true then 6 else if x.upto < now then 4 else 0 := by unfold cLs; rw [h]
theorem stF_at {ps : List Pf} {now : Int} {ls : List Ls} {i : Nat} (hi : i < ls.length) : stF' ps now (ls.take i) (ls.drop i) = if cLs ps now ls i ≠ 0 then cLs ps now ls i else stF' ps now (ls.take (i + 1)) (ls.drop (i + 1)) := by
 obtain ⟨x, hx⟩ : ∃ e, ls[i]? = some e := ⟨_, List.getElem?_eq_getElem hi⟩
 rw [drop_cons hx, stF', cLs_at hx, take_at hx]
 by_cases h1 : (poolIx ps x.ad).isNone = true
 ·simp only [h1, if_true]; simp
 ·by_cases h2 : (ls.take i).any (whoP x.who) = true
  ·simp only [h1, h2, if_true]; simp
  ·by_cases h3 : x.upto < now
   ·simp only [h1, h2, h3, if_true]; simp
   ·simp only [h1, h2, h3]; simp
theorem cLs_who {ps : List Pf} {now : Int} {ls : List Ls} {i : Nat} {x : Ls} (h : ls[i]? = some x) (hc : cLs ps now ls i = 0) : (ls.take i).any (whoP x.who) = false := by
 rw [cLs_at h] at hc
 split at hc
 ·cases hc
 ·split at hc
  ·cases hc
  ·rename_i h2; simpa using h2
theorem idxI_neg (o : Option Nat) : decide (idxI o < 0) = o.isNone := by
 cases o with
 | none => rfl
 | some k =>
  have : ¬ idxI (some k) < 0 := by show ¬ (k : Int) < 0; omega
  simp [this]
theorem chk_loop21 {ps : List Pf} (hp : pfIn ps) (hlen : ps.length ≤ 1048576) (ks : List (List Ad)) {ls : List Ls} (hl : lsIn ls) (hc : ∀ x ∈ ls, chkLs x = 0) (h20 : ls.length ≤ 20) (now : Int) :
  loopN state_Check_L21 FUEL (((), (), (lenL ls, ()), (0, ()), ()), (ks, ps, ls, (now, ()), ())) = some (if stF' ps now [] ls = 0 then Sum.inr ((), (ks, ps, ls, ())) else Sum.inl (((stF' ps now [] ls, ()), ()), (ks, ps, ls, ()))) := by
 have := chk_loop (step := state_Check_L21) ls.length 0 (Nat.zero_le _) (by omega) (cLs ps now ls) (fun i => stF' ps now (ls.take i) (ls.drop i)) (fun i => (((), (), (lenL ls, ()), ((i : Int), ()), ()), (ks, ps, ls, (now, ()), ())))
  (Sum.inr ((), (ks, ps, ls, ()))) (fun e => Sum.inl (((e, ()), ()), (ks, ps, ls, ()))) (fun i _ hi => stF_at hi) (by rw [List.drop_length]; rfl) (fun rec i _ hi hpre => ?_) (fun rec _ => ?_)
 ·simpa using this
 ·obtain ⟨x, hx⟩ : ∃ e, ls[i]? = some e := ⟨_, List.getElem?_eq_getElem hi⟩
  have hm := List.mem_of_getElem? hx
  have hsub : subL ls 0 ((i : Int) + 1) = ls.take (i + 1) := by
   have : ((i : Int) + 1).toNat = i + 1 := by omega
   simp [subL, this]
  have htw : lease_Twice_t (ls.take (i + 1)) = some (twiceL [] (ls.take (i + 1)), ()) := by
   unfold lease_Twice_t
   rw [req_of]
   simp only [Bool.and_eq_true, List.all_eq_true]
   refine ⟨Nat.ble_eq_true_of_le (by simp; omega), fun x hx => ?_⟩
   have := (betw_iff.1 (by
    have := (chkLs_ad (hc x (List.mem_of_mem_take hx))).2.1
    unfold whoOk at this
    rw [Bool.and_eq_true] at this
    exact this.2)).2
   unfold lenS at this
   exact Nat.ble_eq_true_of_le (by omega)
  have hI : twiceL [] (ls.take i) = false := twice_zero i (by omega) fun j y hj hy => cLs_who hy (hpre j (Nat.zero_le _) hj)
  have r5 : (decide ((0 : Int) ≤ (i : Int) + 1) && decide ((i : Int) + 1 ≤ lenL ls)) = true := by
   rw [decide_eq_true (show (0 : Int) ≤ (i : Int) + 1 by omega), decide_eq_true (show (i : Int) + 1 ≤ lenL ls by unfold lenL; omega)]
   rfl
  rw [cLs_at hx]
  simp only [state_Check_L21]
  rw [decide_eq_true (show (i : Int) < lenL ls by unfold lenL; omega), br_true, req_of (zq12 (by omega) (by unfold lenL; omega)), geti_at hx, bind_s, state_poolOf_eq hp hlen ks ls now (hl x hm).1, bind_s, idxI_neg]
  cases hq : (poolIx ps x.ad).isNone
  rotate_left
  ·rfl
  simp only [br_false, Bool.false_eq_true, if_false]
  rw [req_of (i64ok_of (by omega) (by omega)), req_of r5, hsub, htw, bind_s, take_at hx, twiceL_app, hI]
  simp only [List.any_nil, Bool.false_or]
  cases hw : (ls.take i).any (whoP x.who)
  rotate_left
  ·rfl
  simp only [br_false, Bool.false_eq_true, if_false]
  by_cases hu : x.upto < now
  ·simp only [hu, decide_true, br_true, if_true]; rfl
  ·simp only [hu, decide_false, br_false, if_false, ne_eq, not_true]
   rw [show ((i : Int) + 1) = ((i + 1 : Nat) : Int) by omega, req_of (i64ok_of (by omega) (by omega))]
 ·simp only [state_Check_L21]
  rw [decide_eq_false (show ¬ (ls.length : Int) < lenL ls by unfold lenL; omega), br_false]
theorem rchk_loop21 {ps : List Pf} (hp : pfIn ps) (hlen : ps.length ≤ 1048576) (ks : List (List Ad)) {ls : List Ls} (hl : lsIn ls) (hc : ∀ x ∈ ls, chkLs x = 0) (h20 : ls.length ≤ 20) (now : Int) :
  loopN R_CheckState_L21 FUEL (((), (0, ()), (0, ()), ()), (ks, ps, ls, (now, ()), ())) = some (((stF' ps now [] ls, ()), ()), (ks, ps, ls, ())) := by
 have := ref_loop (step := R_CheckState_L21) ls.length (by omega) (cLs ps now ls) (fun i => stF' ps now (ls.take i) (ls.drop i)) (fun e i => (((), (e, ()), ((i : Int), ()), ()), (ks, ps, ls, (now, ()), ())))
  (fun e => (((e, ()), ()), (ks, ps, ls, ()))) (fun i hi => stF_at hi) (by rw [List.drop_length]; rfl) (fun rec e i he => ?_) (fun rec i hi hpre => ?_) (fun rec => ?_)
 ·simpa using this
 ·simp only [R_CheckState_L21, br_ss, bind_s]
  rw [decide_eq_false he]
  cases decide ((i : Int) < lenL ls) <;> rfl
 ·obtain ⟨x, hx⟩ : ∃ e, ls[i]? = some e := ⟨_, List.getElem?_eq_getElem hi⟩
  have hm := List.mem_of_getElem? hx
  have r1 : inRange (i : Int) (lenL ls) = true := zq12 (by omega) (by unfold lenL; omega)
  have r2 : (decide ((0 : Int) ≤ (i : Int)) && decide ((i : Int) ≤ lenL ls)) = true := by simp [lenL]; omega
  have r3 : i64ok ((i : Int) + 1) = true := i64ok_of (by omega) (by omega)
  have hsub : subL ls 0 (i : Int) = ls.take i := by simp [subL]
  have hwa : R_WhoAt_t (ls.take i) x.who = some (idxI (firstF (whoP x.who) (ls.take i)), ()) := R_WhoAt_eq (by simp; omega) _
  rw [cLs_at hx]
  simp only [R_CheckState_L21, br_ss, bind_s]
  rw [decide_eq_true (show (i : Int) < lenL ls by unfold lenL; omega)]
  simp only [decide_true, cond_true, br_true, r1, r2, r3, req_true, geti_at hx, bind_s, R_PoolAt_eq hp hlen ks ls now (hl x hm).1 (chkLs_ad (hc x hm)).1, hsub, hwa, both_self, idxI_nonneg, idxI_neg, firstF_any]
  rw [show ((i : Int) + 1) = ((i + 1 : Nat) : Int) by omega]
  cases (poolIx ps x.ad).isNone
  rotate_left
  ·rfl
  cases (ls.take i).any (whoP x.who)
  rotate_left
  ·rfl
  by_cases hu : x.upto < now
  ·simp only [hu, decide_true, br_true, br_false, if_true]; rfl
  ·simp only [hu, decide_false, br_false, if_false]; rfl
 ·simp only [R_CheckState_L21, br_ss, bind_s]
  rw [decide_eq_false (show ¬ (ls.length : Int) < lenL ls by unfold lenL; omega)]
  rfl
theorem pfIn_of {ps : List Pf} (hp : ∀ p ∈ ps, p.In) {ks : List (List Ad)} (h : poolsF ps ks = 0) : pfIn ps := fun p hm => by
 obtain ⟨i, hi⟩ := List.mem_iff_getElem?.1 hm
 exact ⟨hp p hm, (chkPool_ok (poolsF_all h i p hi)).1⟩
theorem state_Check_eq {ps : List Pf} (hp : ∀ p ∈ ps, p.In) {ks : List (List Ad)} (hk : kpIn ks) {ls : List Ls} (hl : lsIn ls) (now : Int) : state_Check_t (ps, ks) ls now = some (chkS ps ks ls now, ()) := by
 unfold state_Check_t chkS
 simp only
 by_cases h3 : ps.length > 3
 ·rw [decide_eq_true (show lenL ps > 3 by unfold lenL; omega), br_true, if_pos h3]
 rw [decide_eq_false (show ¬ lenL ps > 3 by unfold lenL; omega), br_false, if_neg h3, chk_loop4 hp hk (by omega) ls now, bind_s]
 by_cases h4 : poolsF ps ks = 0
 rotate_left
 ·rw [if_neg h4, if_pos h4]; rfl
 rw [if_pos h4, if_neg (fun h => h h4)]
 have hpf := pfIn_of hp h4
 simp only [sumC]
 rw [chk_loop11 hpf ks (by omega) ls now, bind_s]
 cases ha : adjOk ps
 ·rfl
 simp only [if_true, Bool.true_eq_false, if_false]
 rw [state_within_eq, bind_s]
 cases hb : betw now 0 9999
 ·rfl
 simp only [Bool.not_true, br_false, Bool.true_eq_false, if_false]
 rw [lease_All_eq hl, bind_s]
 by_cases hc : allC ls now = 0
 rotate_left
 ·rw [decide_eq_false hc, if_pos hc]; rfl
 rw [decide_eq_true hc, if_neg (fun h => h hc), Bool.not_true, br_false]
 obtain ⟨a1, a2, _, _⟩ := allC_ok hc
 rw [chk_loop21 hpf (by omega) ks hl a2 a1 now, bind_s]
 by_cases hs : stF' ps now [] ls = 0
 ·rw [if_pos hs, hs]
 ·rw [if_neg hs]
theorem R_CheckState_eq {ps : List Pf} (hp : ∀ p ∈ ps, p.In) {ks : List (List Ad)} (hk : kpIn ks) {ls : List Ls} (hl : lsIn ls) (now : Int) : R_CheckState_t (ps, ks) ls now = some (chkS ps ks ls now, ()) := by
 unfold R_CheckState_t chkS
 simp only
 by_cases h3 : ps.length > 3
 ·rw [decide_eq_true (show lenL ps > 3 by unfold lenL; omega), br_true, if_pos h3]
 rw [decide_eq_false (show ¬ lenL ps > 3 by unfold lenL; omega), br_false, if_neg h3, rchk_loop4 hp hk (by omega) ls now, bind_s]
 by_cases h4 : poolsF ps ks = 0
 rotate_left
 ·rw [if_neg h4, if_pos h4]; rfl
 rw [if_pos h4, if_neg (fun h => h h4)]
 have hpf := pfIn_of hp h4
 simp only [sumC]
 rw [rchk_loop10 hpf ks (by omega) ls now, bind_s]
 cases ha : adjOk ps
 ·rfl
 simp only [if_true, Bool.true_eq_false, if_false]
 rw [R_between_eq, bind_s]
 cases hb : betw now 0 9999
 ·rfl
 simp only [Bool.not_true, br_false, Bool.true_eq_false, if_false]
 rw [R_CheckLeases_eq hl, bind_s]
 by_cases hc : allC ls now = 0
 rotate_left
 ·rw [if_pos hc]
  have : loopN R_CheckState_L21 FUEL (((), (allC ls now, ()), (0, ()), ()), (ks, ps, ls, (now, ()), ())) = some (((allC ls now, ()), ()), (ks, ps, ls, ())) := loop_stop fun rec => by
   simp only [R_CheckState_L21, br_ss, bind_s]
   rw [decide_eq_false hc]
   cases decide ((0 : Int) < lenL ls) <;> rfl
  rw [this]; rfl
 rw [if_neg (fun h => h hc), hc]
 obtain ⟨a1, a2, _, _⟩ := allC_ok hc
 rw [rchk_loop21 hpf (by omega) ks hl a2 a1 now, bind_s]
end Go.Ma
