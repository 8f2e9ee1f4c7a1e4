/-
  Parts: Pm Lc Ld Le Lg Lh Li Lo Ca Cf Ph Ce Pi Pj Pk Cb Cd Lm Pd Pe Pg Sa Cc Sb Sc.
-/
import Derived.Test.YtjncjiegmnicbabGreatVf3
set_option linter.unusedVariables false
set_option linter.unusedSimpArgs false
open List renaming getElem?_eq_getElem → zc0, getElem?_eq_some_iff → zc1, mem_of_getElem? → zc5, getElem?_cons_zero → zc13, drop_of_length_le → zc18, length_take → zc20, length_cons → zc21, getElem?_eq_none → zc22, take_succ_eq_append_getElem → zc26, mem_cons → zc28, length_nil → zc32, mem_append → zc36, getElem?_drop → zc39, pairwise_cons → zc45
open Option.some renaming injEq → zc2
open Bool renaming and_eq_true → zc4, not_true → zc10, false_eq_true → zc16, not_false → zc19
open Nat renaming le_refl → zc47
open Decidable renaming not_not → zc50
noncomputable section
namespace Go.Ma
open Go
abbrev lease_Raw_slices_IndexFunc___api_Lease_api_Lease__L2_A := ((Unit × Unit × (Int × Unit) × (Int × Unit) × Unit) × (List Ad × List Ls × (Bool × Int × Int × Int × Unit) × (ByteArray × Unit) × List Ls × (Ad × Unit) × List Ls × (Bool × Int × Int × Int × Unit) × Unit))
abbrev lease_Raw_slices_IndexFunc___api_Lease_api_Lease__L2_B := Option ((((Int × Unit) × Unit) × (List Ad × List Ls × (Bool × Int × Int × Int × Unit) × (ByteArray × Unit) × List Ls × (Ad × Unit) × List Ls × (Bool × Int × Int × Int × Unit) × Unit)) ⊕ (Unit × (List Ad × List Ls × (Bool × Int × Int × Int × Unit) × (ByteArray × Unit) × List Ls × (Ad × Unit) × List Ls × (Bool × Int × Int × Int × Unit) × Unit)))
def zq1084 (rec : lease_Raw_slices_IndexFunc___api_Lease_api_Lease__L2_A → lease_Raw_slices_IndexFunc___api_Lease_api_Lease__L2_B) (x : lease_Raw_slices_IndexFunc___api_Lease_api_Lease__L2_A) : lease_Raw_slices_IndexFunc___api_Lease_api_Lease__L2_B :=
 let v0 := x.1.2.2.1.1
 let v1 := x.1.2.2.2.1.1
 let v2 := x.2.1
 let v3 := x.2.2.1
 let v4 := x.2.2.2.1.1
 let v5 := x.2.2.2.1.2.1
 let v6 := x.2.2.2.1.2.2.1
 let v7 := x.2.2.2.1.2.2.2.1
 let v8 := x.2.2.2.2.1.1
 let v9 := x.2.2.2.2.2.1
 let zz := x.2.2.2.2.2.2
 let v10 := zz.1.1
 let v11 := zz.2.1
 let v12 := zz.2.2.1.1
 let v13 := zz.2.2.1.2.1
 let v14 := zz.2.2.1.2.2.1
 let v15 := zz.2.2.1.2.2.2.1
 br (decide (v1 < v0))
  (req (zq908 v1 (lenL v11)) <|
  (geti v11 v1).bind fun p1 =>
  (zq1066 p1 v8).bind fun y2 =>
  br y2.1
   (some (Sum.inl (((v1,()),()),(v2,v3,(v4,v5,v6,v7,()),(v8,()),v9,(v10,()),v11,(v12,v13,v14,v15,()),()))))
   (req (i64ok (v1 + 1)) <|
   rec (((),(),(v0,()),(v1 + 1,()),()),(v2,v3,(v4,v5,v6,v7,()),(v8,()),v9,(v10,()),v11,(v12,v13,v14,v15,()),()))))
  (some (Sum.inr (((),(v2,v3,(v4,v5,v6,v7,()),(v8,()),v9,(v10,()),v11,(v12,v13,v14,v15,()),())))))
abbrev lease_Raw_slices_BinarySearchFunc___api_Lease_api_Lease_api_Lease__L3_A := ((Unit × Unit × Unit × (Int × Unit) × (Int × Unit) × (Int × Unit) × Unit) × (List Ad × List Ls × (Bool × Int × Int × Int × Unit) × (ByteArray × Unit) × List Ls × (Ad × Unit) × List Ls × (Bool × Int × Int × Int × Unit) × (Ad × Unit) × (Ls × Unit) × (Ls × Unit) × Unit))
abbrev lease_Raw_slices_BinarySearchFunc___api_Lease_api_Lease_api_Lease__L3_B := Option ((Unit × Unit × Unit × (Int × Unit) × (Int × Unit) × Unit) × (List Ad × List Ls × (Bool × Int × Int × Int × Unit) × (ByteArray × Unit) × List Ls × (Ad × Unit) × List Ls × (Bool × Int × Int × Int × Unit) × (Ad × Unit) × (Ls × Unit) × (Ls × Unit) × Unit))
def zq1078 (rec : lease_Raw_slices_BinarySearchFunc___api_Lease_api_Lease_api_Lease__L3_A → lease_Raw_slices_BinarySearchFunc___api_Lease_api_Lease_api_Lease__L3_B) (x : lease_Raw_slices_BinarySearchFunc___api_Lease_api_Lease_api_Lease__L3_A) : lease_Raw_slices_BinarySearchFunc___api_Lease_api_Lease_api_Lease__L3_B :=
 let v0 := x.1.2.2.2.1.1
 let v1 := x.1.2.2.2.2.1.1
 let v2 := x.1.2.2.2.2.2.1.1
 let v3 := x.2.1
 let v4 := x.2.2.1
 let v5 := x.2.2.2.1.1
 let v6 := x.2.2.2.1.2.1
 let v7 := x.2.2.2.1.2.2.1
 let v8 := x.2.2.2.1.2.2.2.1
 let v9 := x.2.2.2.2.1.1
 let v10 := x.2.2.2.2.2.1
 let v11 := x.2.2.2.2.2.2.1.1
 let zz := x.2.2.2.2.2.2.2
 let v12 := zz.1
 let v13 := zz.2.1.1
 let v14 := zz.2.1.2.1
 let v15 := zz.2.1.2.2.1
 let v16 := zz.2.1.2.2.2.1
 let v17 := zz.2.2.1.1
 let v18 := zz.2.2.2.1.1
 let v19 := zz.2.2.2.2.1.1
 br (decide (v1 < v2))
  (req (i64ok (v1 + v2)) <|
  req (zq908 (convI .i64 (aop .shr .u64 (convI .u64 (v1 + v2)) 1)) (lenL v12)) <|
  (geti v12 (convI .i64 (aop .shr .u64 (convI .u64 (v1 + v2)) 1))).bind fun p1 =>
  (zq1071 p1 v19).bind fun y2 =>
  br (decide (y2.1 < 0))
   (req (i64ok ((convI .i64 (aop .shr .u64 (convI .u64 (v1 + v2)) 1)) + 1)) <|
   rec (((),(),(),(v0,()),((convI .i64 (aop .shr .u64 (convI .u64 (v1 + v2)) 1)) + 1,()),(v2,()),()),(v3,v4,(v5,v6,v7,v8,()),(v9,()),v10,(v11,()),v12,(v13,v14,v15,v16,()),(v17,()),(v18,()),(v19,()),())))
   (rec (((),(),(),(v0,()),(v1,()),(convI .i64 (aop .shr .u64 (convI .u64 (v1 + v2)) 1),()),()),(v3,v4,(v5,v6,v7,v8,()),(v9,()),v10,(v11,()),v12,(v13,v14,v15,v16,()),(v17,()),(v18,()),(v19,()),()))))
  (some (((),(),(),(v0,()),(v1,()),()),(v3,v4,(v5,v6,v7,v8,()),(v9,()),v10,(v11,()),v12,(v13,v14,v15,v16,()),(v17,()),(v18,()),(v19,()),())))
abbrev lease_Raw_slices_BinarySearchFunc___api_Lease_api_Lease_api_Lease__1_L3_A := ((Unit × Unit × Unit × (Int × Unit) × (Int × Unit) × (Int × Unit) × Unit) × (List Ad × List Ls × (Bool × Int × Int × Int × Unit) × (ByteArray × Unit) × List Ls × (Ad × Unit) × List Ls × (Bool × Int × Int × Int × Unit) × (Ad × Unit) × (Ls × Unit) × (Ls × Unit) × Unit))
abbrev lease_Raw_slices_BinarySearchFunc___api_Lease_api_Lease_api_Lease__1_L3_B := Option ((Unit × Unit × Unit × (Int × Unit) × (Int × Unit) × Unit) × (List Ad × List Ls × (Bool × Int × Int × Int × Unit) × (ByteArray × Unit) × List Ls × (Ad × Unit) × List Ls × (Bool × Int × Int × Int × Unit) × (Ad × Unit) × (Ls × Unit) × (Ls × Unit) × Unit))
def zq1077 (rec : lease_Raw_slices_BinarySearchFunc___api_Lease_api_Lease_api_Lease__1_L3_A → lease_Raw_slices_BinarySearchFunc___api_Lease_api_Lease_api_Lease__1_L3_B) (x : lease_Raw_slices_BinarySearchFunc___api_Lease_api_Lease_api_Lease__1_L3_A) : lease_Raw_slices_BinarySearchFunc___api_Lease_api_Lease_api_Lease__1_L3_B :=
 let v0 := x.1.2.2.2.1.1
 let v1 := x.1.2.2.2.2.1.1
 let v2 := x.1.2.2.2.2.2.1.1
 let v3 := x.2.1
 let v4 := x.2.2.1
 let v5 := x.2.2.2.1.1
 let v6 := x.2.2.2.1.2.1
 let v7 := x.2.2.2.1.2.2.1
 let v8 := x.2.2.2.1.2.2.2.1
 let v9 := x.2.2.2.2.1.1
 let v10 := x.2.2.2.2.2.1
 let v11 := x.2.2.2.2.2.2.1.1
 let zz := x.2.2.2.2.2.2.2
 let v12 := zz.1
 let v13 := zz.2.1.1
 let v14 := zz.2.1.2.1
 let v15 := zz.2.1.2.2.1
 let v16 := zz.2.1.2.2.2.1
 let v17 := zz.2.2.1.1
 let v18 := zz.2.2.2.1.1
 let v19 := zz.2.2.2.2.1.1
 br (decide (v1 < v2))
  (req (i64ok (v1 + v2)) <|
  req (zq908 (convI .i64 (aop .shr .u64 (convI .u64 (v1 + v2)) 1)) (lenL v12)) <|
  (geti v12 (convI .i64 (aop .shr .u64 (convI .u64 (v1 + v2)) 1))).bind fun p1 =>
  (zq1071 p1 v19).bind fun y2 =>
  br (decide (y2.1 < 0))
   (req (i64ok ((convI .i64 (aop .shr .u64 (convI .u64 (v1 + v2)) 1)) + 1)) <|
   rec (((),(),(),(v0,()),((convI .i64 (aop .shr .u64 (convI .u64 (v1 + v2)) 1)) + 1,()),(v2,()),()),(v3,v4,(v5,v6,v7,v8,()),(v9,()),v10,(v11,()),v12,(v13,v14,v15,v16,()),(v17,()),(v18,()),(v19,()),())))
   (rec (((),(),(),(v0,()),(v1,()),(convI .i64 (aop .shr .u64 (convI .u64 (v1 + v2)) 1),()),()),(v3,v4,(v5,v6,v7,v8,()),(v9,()),v10,(v11,()),v12,(v13,v14,v15,v16,()),(v17,()),(v18,()),(v19,()),()))))
  (some (((),(),(),(v0,()),(v1,()),()),(v3,v4,(v5,v6,v7,v8,()),(v9,()),v10,(v11,()),v12,(v13,v14,v15,v16,()),(v17,()),(v18,()),(v19,()),())))
def zq1090 (a0 : Pf) (a1 : List Ad) (a2 : List Ls) (a3 : ByteArray) (a4 : Int) (a5 : Int) : Option ((List Ls) × Ad × Bool × Unit) :=
 (zq1055 a2 a4).bind fun y1 =>
 (loopN zq1084 FUEL (((()),(()),(lenL y1.1,()),(0,()),()),(a1,a2,(a0.ad.v6,a0.ad.hi,a0.ad.lo,a0.bits,()),(a3,()),([] : List Ls),((⟨false,0,0⟩ : Ad),()),y1.1,(a0.ad.v6,a0.ad.hi,a0.ad.lo,a0.bits,()),()))).bind fun y2 =>
 sumC y2 (fun y3 =>
  br (decide (y3.1.1.1 ≥ 0))
   (req (i64ok (a4 + a5)) <|
   req (zq908 y3.1.1.1 (lenL y3.2.2.2.2.2.2.2.1)) <|
   req (zq908 y3.1.1.1 (lenL y3.2.2.2.2.2.2.2.1)) <|
   (geti y3.2.2.2.2.2.2.2.1 y3.1.1.1).bind fun p4 =>
   req (zq908 y3.1.1.1 (lenL (seti y3.2.2.2.2.2.2.2.1 y3.1.1.1 (⟨p4.ad,p4.who,a4 + a5⟩ : Ls)))) <|
   req (zq908 y3.1.1.1 (lenL (seti y3.2.2.2.2.2.2.2.1 y3.1.1.1 (⟨p4.ad,p4.who,a4 + a5⟩ : Ls)))) <|
   (geti (seti y3.2.2.2.2.2.2.2.1 y3.1.1.1 (⟨p4.ad,p4.who,a4 + a5⟩ : Ls)) y3.1.1.1).bind fun p5 =>
   some (seti y3.2.2.2.2.2.2.2.1 y3.1.1.1 (⟨p4.ad,p4.who,a4 + a5⟩ : Ls),p5.ad,true,()))
   ((zq332 (⟨(⟨y3.2.2.2.2.2.2.2.2.1.1,y3.2.2.2.2.2.2.2.2.1.2.1,y3.2.2.2.2.2.2.2.2.1.2.2.1⟩ : Ad),y3.2.2.2.2.2.2.2.2.1.2.2.2.1⟩ : Pf) y3.2.1 y3.2.2.2.2.2.2.2.1).bind fun y4 =>
   br (!y4.2.1)
    (some (([] : List Ls),y4.1,false,()))
    (req (i64ok (a4 + a5)) <|
    ((loopN zq1078 FUEL (((()),(()),(()),(lenL y3.2.2.2.2.2.2.2.1,()),(0,()),(lenL y3.2.2.2.2.2.2.2.1,()),()),(y3.2.1,y3.2.2.1,(y3.2.2.2.1.1,y3.2.2.2.1.2.1,y3.2.2.2.1.2.2.1,y3.2.2.2.1.2.2.2.1,()),(y3.2.2.2.2.1.1,()),y3.2.2.2.2.2.1,(y3.2.2.2.2.2.2.1.1,()),y3.2.2.2.2.2.2.2.1,(y3.2.2.2.2.2.2.2.2.1.1,y3.2.2.2.2.2.2.2.2.1.2.1,y3.2.2.2.2.2.2.2.2.1.2.2.1,y3.2.2.2.2.2.2.2.2.1.2.2.2.1,()),(y4.1,()),((⟨y4.1,y3.2.2.2.2.1.1,a4 + a5⟩ : Ls),()),((⟨y4.1,y3.2.2.2.2.1.1,a4 + a5⟩ : Ls),()),()))).bind fun y5 =>
     br (decide (y5.1.2.2.2.2.1.1 < y5.1.2.2.2.1.1))
      (req (zq908 y5.1.2.2.2.2.1.1 (lenL y5.2.2.2.2.2.2.2.1)) <|
      (geti y5.2.2.2.2.2.2.2.1 y5.1.2.2.2.2.1.1).bind fun p6 =>
      (zq1071 p6 y5.2.2.2.2.2.2.2.2.2.2.2.1.1).bind fun y7 =>
      some (y5.1.2.2.2.2.1.1,decide (y7.1 = 0),()))
      (some (y5.1.2.2.2.2.1.1,false,()))).bind fun y6 =>
    both
     (dup 1 <|
     req (decide (0 ≤ y6.1) && decide (y6.1 ≤ lenL y3.2.2.2.2.2.2.2.1) && room (lenL y3.2.2.2.2.2.2.2.1) 1) <|
     some (insL y3.2.2.2.2.2.2.2.1 y6.1 (⟨y4.1,y3.2.2.2.2.1.1,a4 + a5⟩ : Ls),y4.1,true,()))
     (req (decide (0 ≤ y6.1) && decide (y6.1 ≤ lenL y3.2.2.2.2.2.2.2.1) && room (lenL y3.2.2.2.2.2.2.2.1) 1) <|
     some (insL y3.2.2.2.2.2.2.2.1 y6.1 (⟨y4.1,y3.2.2.2.2.1.1,a4 + a5⟩ : Ls),y4.1,true,()))))) (fun y7 =>
  (zq332 (⟨(⟨y7.2.2.2.2.2.2.2.2.1.1,y7.2.2.2.2.2.2.2.2.1.2.1,y7.2.2.2.2.2.2.2.2.1.2.2.1⟩ : Ad),y7.2.2.2.2.2.2.2.2.1.2.2.2.1⟩ : Pf) y7.2.1 y7.2.2.2.2.2.2.2.1).bind fun y8 =>
  br (!y8.2.1)
   (some (([] : List Ls),y8.1,false,()))
   (req (i64ok (a4 + a5)) <|
   ((loopN zq1077 FUEL (((()),(()),(()),(lenL y7.2.2.2.2.2.2.2.1,()),(0,()),(lenL y7.2.2.2.2.2.2.2.1,()),()),(y7.2.1,y7.2.2.1,(y7.2.2.2.1.1,y7.2.2.2.1.2.1,y7.2.2.2.1.2.2.1,y7.2.2.2.1.2.2.2.1,()),(y7.2.2.2.2.1.1,()),y7.2.2.2.2.2.1,(y7.2.2.2.2.2.2.1.1,()),y7.2.2.2.2.2.2.2.1,(y7.2.2.2.2.2.2.2.2.1.1,y7.2.2.2.2.2.2.2.2.1.2.1,y7.2.2.2.2.2.2.2.2.1.2.2.1,y7.2.2.2.2.2.2.2.2.1.2.2.2.1,()),(y8.1,()),((⟨y8.1,y7.2.2.2.2.1.1,a4 + a5⟩ : Ls),()),((⟨y8.1,y7.2.2.2.2.1.1,a4 + a5⟩ : Ls),()),()))).bind fun y9 =>
    br (decide (y9.1.2.2.2.2.1.1 < y9.1.2.2.2.1.1))
     (req (zq908 y9.1.2.2.2.2.1.1 (lenL y9.2.2.2.2.2.2.2.1)) <|
     (geti y9.2.2.2.2.2.2.2.1 y9.1.2.2.2.2.1.1).bind fun p10 =>
     (zq1071 p10 y9.2.2.2.2.2.2.2.2.2.2.2.1.1).bind fun y11 =>
     some (y9.1.2.2.2.2.1.1,decide (y11.1 = 0),()))
     (some (y9.1.2.2.2.2.1.1,false,()))).bind fun y10 =>
   both
    (dup 1 <|
    req (decide (0 ≤ y10.1) && decide (y10.1 ≤ lenL y7.2.2.2.2.2.2.2.1) && room (lenL y7.2.2.2.2.2.2.2.1) 1) <|
    some (insL y7.2.2.2.2.2.2.2.1 y10.1 (⟨y8.1,y7.2.2.2.2.1.1,a4 + a5⟩ : Ls),y8.1,true,()))
    (req (decide (0 ≤ y10.1) && decide (y10.1 ≤ lenL y7.2.2.2.2.2.2.2.1) && room (lenL y7.2.2.2.2.2.2.2.1) 1) <|
    some (insL y7.2.2.2.2.2.2.2.1 y10.1 (⟨y8.1,y7.2.2.2.2.1.1,a4 + a5⟩ : Ls),y8.1,true,()))))
abbrev state_Raw___state_doer__do___state_doer__pool_slices_ContainsFunc___api_Pool_api_Pool__slices_IndexFunc___api_Pool_api_Pool__L2_A := ((Unit × Unit × (Int × Unit) × (Int × Unit) × Unit) × (List (List Ad) × List Pf × List Ls × (Int × Unit) × (Oq × Unit) × (Int × Unit) × List (List Ad) × List Pf × List Ls × (Ad × Unit) × List (List Ad) × List Pf × List Ls × (Int × Unit) × (Oq × Unit) × (Ad × Unit) × (Pf × Unit) × Unit))
abbrev state_Raw___state_doer__do___state_doer__pool_slices_ContainsFunc___api_Pool_api_Pool__slices_IndexFunc___api_Pool_api_Pool__L2_B := Option ((((Int × Unit) × Unit) × (List (List Ad) × List Pf × List Ls × (Int × Unit) × (Oq × Unit) × (Int × Unit) × List (List Ad) × List Pf × List Ls × (Ad × Unit) × List (List Ad) × List Pf × List Ls × (Int × Unit) × (Oq × Unit) × (Ad × Unit) × (Pf × Unit) × Unit)) ⊕ (Unit × (List (List Ad) × List Pf × List Ls × (Int × Unit) × (Oq × Unit) × (Int × Unit) × List (List Ad) × List Pf × List Ls × (Ad × Unit) × List (List Ad) × List Pf × List Ls × (Int × Unit) × (Oq × Unit) × (Ad × Unit) × (Pf × Unit) × Unit)))
def zq1742 (rec : state_Raw___state_doer__do___state_doer__pool_slices_ContainsFunc___api_Pool_api_Pool__slices_IndexFunc___api_Pool_api_Pool__L2_A → state_Raw___state_doer__do___state_doer__pool_slices_ContainsFunc___api_Pool_api_Pool__slices_IndexFunc___api_Pool_api_Pool__L2_B) (x : state_Raw___state_doer__do___state_doer__pool_slices_ContainsFunc___api_Pool_api_Pool__slices_IndexFunc___api_Pool_api_Pool__L2_A) : state_Raw___state_doer__do___state_doer__pool_slices_ContainsFunc___api_Pool_api_Pool__slices_IndexFunc___api_Pool_api_Pool__L2_B :=
 let v0 := x.1.2.2.1.1
 let v1 := x.1.2.2.2.1.1
 let v2 := x.2.1
 let v3 := x.2.2.1
 let v4 := x.2.2.2.1
 let v5 := x.2.2.2.2.1.1
 let v6 := x.2.2.2.2.2.1.1
 let v7 := x.2.2.2.2.2.2.1.1
 let v8 := x.2.2.2.2.2.2.2.1
 let v9 := x.2.2.2.2.2.2.2.2.1
 let zz := x.2.2.2.2.2.2.2.2.2
 let v10 := zz.1
 let v11 := zz.2.1.1
 let v12 := zz.2.2.1
 let v13 := zz.2.2.2.1
 let v14 := zz.2.2.2.2.1
 let v15 := zz.2.2.2.2.2.1.1
 let v16 := zz.2.2.2.2.2.2.1.1
 let v17 := zz.2.2.2.2.2.2.2.1.1
 let v18 := zz.2.2.2.2.2.2.2.2.1.1
 br (decide (v1 < v0))
  (req (zq908 v1 (lenL v13)) <|
  (geti v13 v1).bind fun p1 =>
  (zq372 p1 (getL v12 v1) v18).bind fun y2 =>
  br y2.1
   (some (Sum.inl (((v1,()),()),(v2,v3,v4,(v5,()),(v6,()),(v7,()),v8,v9,v10,(v11,()),v12,v13,v14,(v15,()),(v16,()),(v17,()),(v18,()),()))))
   (req (i64ok (v1 + 1)) <|
   rec (((),(),(v0,()),(v1 + 1,()),()),(v2,v3,v4,(v5,()),(v6,()),(v7,()),v8,v9,v10,(v11,()),v12,v13,v14,(v15,()),(v16,()),(v17,()),(v18,()),()))))
  (some (Sum.inr (((),(v2,v3,v4,(v5,()),(v6,()),(v7,()),v8,v9,v10,(v11,()),v12,v13,v14,(v15,()),(v16,()),(v17,()),(v18,()),())))))
abbrev state_Raw___state_doer__do___state_doer__pool_slices_BinarySearchFunc___api_Pool_api_Pool_api_Prefix__L3_A := ((Unit × Unit × Unit × (Int × Unit) × (Int × Unit) × (Int × Unit) × Unit) × (List (List Ad) × List Pf × List Ls × (Int × Unit) × (Oq × Unit) × (Int × Unit) × List (List Ad) × List Pf × List Ls × (Ad × Unit) × List (List Ad) × List Pf × List Ls × (Int × Unit) × (Oq × Unit) × (Ad × Unit) × (Pf × Unit) × (Pf × Unit) × Unit))
abbrev state_Raw___state_doer__do___state_doer__pool_slices_BinarySearchFunc___api_Pool_api_Pool_api_Prefix__L3_B := Option ((Unit × Unit × Unit × (Int × Unit) × (Int × Unit) × Unit) × (List (List Ad) × List Pf × List Ls × (Int × Unit) × (Oq × Unit) × (Int × Unit) × List (List Ad) × List Pf × List Ls × (Ad × Unit) × List (List Ad) × List Pf × List Ls × (Int × Unit) × (Oq × Unit) × (Ad × Unit) × (Pf × Unit) × (Pf × Unit) × Unit))
def zq1733 (rec : state_Raw___state_doer__do___state_doer__pool_slices_BinarySearchFunc___api_Pool_api_Pool_api_Prefix__L3_A → state_Raw___state_doer__do___state_doer__pool_slices_BinarySearchFunc___api_Pool_api_Pool_api_Prefix__L3_B) (x : state_Raw___state_doer__do___state_doer__pool_slices_BinarySearchFunc___api_Pool_api_Pool_api_Prefix__L3_A) : state_Raw___state_doer__do___state_doer__pool_slices_BinarySearchFunc___api_Pool_api_Pool_api_Prefix__L3_B :=
 let v0 := x.1.2.2.2.1.1
 let v1 := x.1.2.2.2.2.1.1
 let v2 := x.1.2.2.2.2.2.1.1
 let v3 := x.2.1
 let v4 := x.2.2.1
 let v5 := x.2.2.2.1
 let v6 := x.2.2.2.2.1.1
 let v7 := x.2.2.2.2.2.1.1
 let v8 := x.2.2.2.2.2.2.1.1
 let v9 := x.2.2.2.2.2.2.2.1
 let v10 := x.2.2.2.2.2.2.2.2.1
 let zz := x.2.2.2.2.2.2.2.2.2
 let v11 := zz.1
 let v12 := zz.2.1.1
 let v13 := zz.2.2.1
 let v14 := zz.2.2.2.1
 let v15 := zz.2.2.2.2.1
 let v16 := zz.2.2.2.2.2.1.1
 let v17 := zz.2.2.2.2.2.2.1.1
 let v18 := zz.2.2.2.2.2.2.2.1.1
 let v19 := zz.2.2.2.2.2.2.2.2.1.1
 let v20 := zz.2.2.2.2.2.2.2.2.2.1.1
 br (decide (v1 < v2))
  (req (i64ok (v1 + v2)) <|
  req (zq908 (convI .i64 (aop .shr .u64 (convI .u64 (v1 + v2)) 1)) (lenL v14)) <|
  (geti v14 (convI .i64 (aop .shr .u64 (convI .u64 (v1 + v2)) 1))).bind fun p1 =>
  (zq377 p1 (getL v13 (convI .i64 (aop .shr .u64 (convI .u64 (v1 + v2)) 1))) v20).bind fun y2 =>
  br (decide (y2.1 < 0))
   (req (i64ok ((convI .i64 (aop .shr .u64 (convI .u64 (v1 + v2)) 1)) + 1)) <|
   rec (((),(),(),(v0,()),((convI .i64 (aop .shr .u64 (convI .u64 (v1 + v2)) 1)) + 1,()),(v2,()),()),(v3,v4,v5,(v6,()),(v7,()),(v8,()),v9,v10,v11,(v12,()),v13,v14,v15,(v16,()),(v17,()),(v18,()),(v19,()),(v20,()),())))
   (rec (((),(),(),(v0,()),(v1,()),(convI .i64 (aop .shr .u64 (convI .u64 (v1 + v2)) 1),()),()),(v3,v4,v5,(v6,()),(v7,()),(v8,()),v9,v10,v11,(v12,()),v13,v14,v15,(v16,()),(v17,()),(v18,()),(v19,()),(v20,()),()))))
  (some (((),(),(),(v0,()),(v1,()),()),(v3,v4,v5,(v6,()),(v7,()),(v8,()),v9,v10,v11,(v12,()),v13,v14,v15,(v16,()),(v17,()),(v18,()),(v19,()),(v20,()),())))
abbrev state_Raw___state_doer__do___state_doer__pool_slices_BinarySearchFunc___api_Pool_api_Pool_api_Prefix__1_L3_A := ((Unit × Unit × Unit × (Int × Unit) × (Int × Unit) × (Int × Unit) × Unit) × (List (List Ad) × List Pf × List Ls × (Int × Unit) × (Oq × Unit) × (Int × Unit) × List (List Ad) × List Pf × List Ls × (Ad × Unit) × List (List Ad) × List Pf × List Ls × (Int × Unit) × (Oq × Unit) × (Ad × Unit) × (Pf × Unit) × (Pf × Unit) × Unit))
abbrev state_Raw___state_doer__do___state_doer__pool_slices_BinarySearchFunc___api_Pool_api_Pool_api_Prefix__1_L3_B := Option ((Unit × Unit × Unit × (Int × Unit) × (Int × Unit) × Unit) × (List (List Ad) × List Pf × List Ls × (Int × Unit) × (Oq × Unit) × (Int × Unit) × List (List Ad) × List Pf × List Ls × (Ad × Unit) × List (List Ad) × List Pf × List Ls × (Int × Unit) × (Oq × Unit) × (Ad × Unit) × (Pf × Unit) × (Pf × Unit) × Unit))
def zq1732 (rec : state_Raw___state_doer__do___state_doer__pool_slices_BinarySearchFunc___api_Pool_api_Pool_api_Prefix__1_L3_A → state_Raw___state_doer__do___state_doer__pool_slices_BinarySearchFunc___api_Pool_api_Pool_api_Prefix__1_L3_B) (x : state_Raw___state_doer__do___state_doer__pool_slices_BinarySearchFunc___api_Pool_api_Pool_api_Prefix__1_L3_A) : state_Raw___state_doer__do___state_doer__pool_slices_BinarySearchFunc___api_Pool_api_Pool_api_Prefix__1_L3_B :=
 let v0 := x.1.2.2.2.1.1
 let v1 := x.1.2.2.2.2.1.1
 let v2 := x.1.2.2.2.2.2.1.1
 let v3 := x.2.1
 let v4 := x.2.2.1
 let v5 := x.2.2.2.1
 let v6 := x.2.2.2.2.1.1
 let v7 := x.2.2.2.2.2.1.1
 let v8 := x.2.2.2.2.2.2.1.1
 let v9 := x.2.2.2.2.2.2.2.1
 let v10 := x.2.2.2.2.2.2.2.2.1
 let zz := x.2.2.2.2.2.2.2.2.2
 let v11 := zz.1
 let v12 := zz.2.1.1
 let v13 := zz.2.2.1
 let v14 := zz.2.2.2.1
 let v15 := zz.2.2.2.2.1
 let v16 := zz.2.2.2.2.2.1.1
 let v17 := zz.2.2.2.2.2.2.1.1
 let v18 := zz.2.2.2.2.2.2.2.1.1
 let v19 := zz.2.2.2.2.2.2.2.2.1.1
 let v20 := zz.2.2.2.2.2.2.2.2.2.1.1
 br (decide (v1 < v2))
  (req (i64ok (v1 + v2)) <|
  req (zq908 (convI .i64 (aop .shr .u64 (convI .u64 (v1 + v2)) 1)) (lenL v14)) <|
  (geti v14 (convI .i64 (aop .shr .u64 (convI .u64 (v1 + v2)) 1))).bind fun p1 =>
  (zq377 p1 (getL v13 (convI .i64 (aop .shr .u64 (convI .u64 (v1 + v2)) 1))) v20).bind fun y2 =>
  br (decide (y2.1 < 0))
   (req (i64ok ((convI .i64 (aop .shr .u64 (convI .u64 (v1 + v2)) 1)) + 1)) <|
   rec (((),(),(),(v0,()),((convI .i64 (aop .shr .u64 (convI .u64 (v1 + v2)) 1)) + 1,()),(v2,()),()),(v3,v4,v5,(v6,()),(v7,()),(v8,()),v9,v10,v11,(v12,()),v13,v14,v15,(v16,()),(v17,()),(v18,()),(v19,()),(v20,()),())))
   (rec (((),(),(),(v0,()),(v1,()),(convI .i64 (aop .shr .u64 (convI .u64 (v1 + v2)) 1),()),()),(v3,v4,v5,(v6,()),(v7,()),(v8,()),v9,v10,v11,(v12,()),v13,v14,v15,(v16,()),(v17,()),(v18,()),(v19,()),(v20,()),()))))
  (some (((),(),(),(v0,()),(v1,()),()),(v3,v4,v5,(v6,()),(v7,()),(v8,()),v9,v10,v11,(v12,()),v13,v14,v15,(v16,()),(v17,()),(v18,()),(v19,()),(v20,()),())))
abbrev state_Raw___state_doer__do___state_doer__keep_slices_BinarySearchFunc___api_Addr_api_Addr_api_Addr__L3_A := (((Int × Unit) × Unit × Unit × (Int × Unit) × (Int × Unit) × (Int × Unit) × Unit) × (List (List Ad) × List Pf × List Ls × (Int × Unit) × (Oq × Unit) × (Int × Unit) × List (List Ad) × List Pf × List Ls × (Ad × Unit) × List (List Ad) × List Pf × List Ls × (Int × Unit) × (Oq × Unit) × (Ad × Unit) × (Ad × Unit) × (Ad × Unit) × Unit))
abbrev state_Raw___state_doer__do___state_doer__keep_slices_BinarySearchFunc___api_Addr_api_Addr_api_Addr__L3_B := Option (((Int × Unit) × Unit × Unit × (Int × Unit) × (Int × Unit) × Unit) × (List (List Ad) × List Pf × List Ls × (Int × Unit) × (Oq × Unit) × (Int × Unit) × List (List Ad) × List Pf × List Ls × (Ad × Unit) × List (List Ad) × List Pf × List Ls × (Int × Unit) × (Oq × Unit) × (Ad × Unit) × (Ad × Unit) × (Ad × Unit) × Unit))
def zq1723 (rec : state_Raw___state_doer__do___state_doer__keep_slices_BinarySearchFunc___api_Addr_api_Addr_api_Addr__L3_A → state_Raw___state_doer__do___state_doer__keep_slices_BinarySearchFunc___api_Addr_api_Addr_api_Addr__L3_B) (x : state_Raw___state_doer__do___state_doer__keep_slices_BinarySearchFunc___api_Addr_api_Addr_api_Addr__L3_A) : state_Raw___state_doer__do___state_doer__keep_slices_BinarySearchFunc___api_Addr_api_Addr_api_Addr__L3_B :=
 let v0 := x.1.1.1
 let v1 := x.1.2.2.2.1.1
 let v2 := x.1.2.2.2.2.1.1
 let v3 := x.1.2.2.2.2.2.1.1
 let v4 := x.2.1
 let v5 := x.2.2.1
 let v6 := x.2.2.2.1
 let v7 := x.2.2.2.2.1.1
 let v8 := x.2.2.2.2.2.1.1
 let v9 := x.2.2.2.2.2.2.1.1
 let v10 := x.2.2.2.2.2.2.2.1
 let v11 := x.2.2.2.2.2.2.2.2.1
 let zz := x.2.2.2.2.2.2.2.2.2
 let v12 := zz.1
 let v13 := zz.2.1.1
 let v14 := zz.2.2.1
 let v15 := zz.2.2.2.1
 let v16 := zz.2.2.2.2.1
 let v17 := zz.2.2.2.2.2.1.1
 let v18 := zz.2.2.2.2.2.2.1.1
 let v19 := zz.2.2.2.2.2.2.2.1.1
 let v20 := zz.2.2.2.2.2.2.2.2.1.1
 let v21 := zz.2.2.2.2.2.2.2.2.2.1.1
 br (decide (v2 < v3))
  (req (i64ok (v2 + v3)) <|
  req (zq908 (convI .i64 (aop .shr .u64 (convI .u64 (v2 + v3)) 1)) (lenL (getL v14 v0))) <|
  (geti (getL v14 v0) (convI .i64 (aop .shr .u64 (convI .u64 (v2 + v3)) 1))).bind fun p1 =>
  (zq420 p1 v21).bind fun y2 =>
  br (decide (y2.1 < 0))
   (req (i64ok ((convI .i64 (aop .shr .u64 (convI .u64 (v2 + v3)) 1)) + 1)) <|
   rec (((v0,()),(),(),(v1,()),((convI .i64 (aop .shr .u64 (convI .u64 (v2 + v3)) 1)) + 1,()),(v3,()),()),(v4,v5,v6,(v7,()),(v8,()),(v9,()),v10,v11,v12,(v13,()),v14,v15,v16,(v17,()),(v18,()),(v19,()),(v20,()),(v21,()),())))
   (rec (((v0,()),(),(),(v1,()),(v2,()),(convI .i64 (aop .shr .u64 (convI .u64 (v2 + v3)) 1),()),()),(v4,v5,v6,(v7,()),(v8,()),(v9,()),v10,v11,v12,(v13,()),v14,v15,v16,(v17,()),(v18,()),(v19,()),(v20,()),(v21,()),()))))
  (some (((v0,()),(),(),(v1,()),(v2,()),()),(v4,v5,v6,(v7,()),(v8,()),(v9,()),v10,v11,v12,(v13,()),v14,v15,v16,(v17,()),(v18,()),(v19,()),(v20,()),(v21,()),())))
abbrev state_Raw___state_doer__do___state_doer__grant_L9_A := ((Unit × (ByteArray × Unit) × (Int × Unit) × Unit × Unit × Unit × Unit × Unit × (Int × Unit) × (Int × Unit) × Unit) × (List (List Ad) × List Pf × List Ls × (Int × Unit) × (Oq × Unit) × (Int × Unit) × List (List Ad) × List Pf × List Ls × (Ad × Unit) × List (List Ad) × List Pf × List Ls × (Int × Unit) × (Oq × Unit) × (Ad × Unit) × (Ad × Unit) × (Bool × Int × Int × Int × Int × Unit) × List Ls × List Ls × Unit))
abbrev state_Raw___state_doer__do___state_doer__grant_L9_B := Option ((Unit × (ByteArray × Unit) × (Int × Unit) × Unit × Unit × Unit × Unit × Unit) × (List (List Ad) × List Pf × List Ls × (Int × Unit) × (Oq × Unit) × (Int × Unit) × List (List Ad) × List Pf × List Ls × (Ad × Unit) × List (List Ad) × List Pf × List Ls × (Int × Unit) × (Oq × Unit) × (Ad × Unit) × (Ad × Unit) × (Bool × Int × Int × Int × Int × Unit) × List Ls × List Ls × Unit))
def zq1714 (rec : state_Raw___state_doer__do___state_doer__grant_L9_A → state_Raw___state_doer__do___state_doer__grant_L9_B) (x : state_Raw___state_doer__do___state_doer__grant_L9_A) : state_Raw___state_doer__do___state_doer__grant_L9_B :=
 let v0 := x.1.2.1.1
 let v1 := x.1.2.2.1.1
 let v2 := x.1.2.2.2.2.2.2.2.2.1.1
 let v3 := x.1.2.2.2.2.2.2.2.2.2.1.1
 let v4 := x.2.1
 let v5 := x.2.2.1
 let v6 := x.2.2.2.1
 let v7 := x.2.2.2.2.1.1
 let v8 := x.2.2.2.2.2.1.1
 let v9 := x.2.2.2.2.2.2.1.1
 let v10 := x.2.2.2.2.2.2.2.1
 let v11 := x.2.2.2.2.2.2.2.2.1
 let v12 := x.2.2.2.2.2.2.2.2.2.1
 let v13 := x.2.2.2.2.2.2.2.2.2.2.1.1
 let v14 := x.2.2.2.2.2.2.2.2.2.2.2.1
 let zz := x.2.2.2.2.2.2.2.2.2.2.2.2
 let v15 := zz.1
 let v16 := zz.2.1
 let v17 := zz.2.2.1.1
 let v18 := zz.2.2.2.1.1
 let v19 := zz.2.2.2.2.1.1
 let v20 := zz.2.2.2.2.2.1.1
 let v21 := zz.2.2.2.2.2.2.1.1
 let v22 := zz.2.2.2.2.2.2.1.2.1
 let v23 := zz.2.2.2.2.2.2.1.2.2.1
 let v24 := zz.2.2.2.2.2.2.1.2.2.2.1
 let v25 := zz.2.2.2.2.2.2.1.2.2.2.2.1
 let v26 := zz.2.2.2.2.2.2.2.1
 let v27 := zz.2.2.2.2.2.2.2.2.1
 br (decide (v3 < v2))
  (req (zq908 v3 (lenL v16)) <|
  (geti v16 v3).bind fun p1 =>
  (zq1426 (⟨(⟨v21,v22,v23⟩ : Ad),v24⟩ : Pf) p1.ad).bind fun y2 =>
  br y2.1
   (req (room (lenL v26) (lenL ([p1] : List Ls))) <|
   req (i64ok (v3 + 1)) <|
   rec (((),(v0,()),(v1,()),(),(),(),(),(),(v2,()),(v3 + 1,()),()),(v4,v5,v6,(v7,()),(v8,()),(v9,()),v10,v11,v12,(v13,()),v14,v15,v16,(v17,()),(v18,()),(v19,()),(v20,()),(v21,v22,v23,v24,v25,()),v26 ++ ([p1] : List Ls),v27,())))
   (req (room (lenL v27) (lenL ([p1] : List Ls))) <|
   req (i64ok (v3 + 1)) <|
   rec (((),(v0,()),(v1,()),(),(),(),(),(),(v2,()),(v3 + 1,()),()),(v4,v5,v6,(v7,()),(v8,()),(v9,()),v10,v11,v12,(v13,()),v14,v15,v16,(v17,()),(v18,()),(v19,()),(v20,()),(v21,v22,v23,v24,v25,()),v26,v27 ++ ([p1] : List Ls),()))))
  (some (((),(v0,()),(v1,()),(),(),(),(),()),(v4,v5,v6,(v7,()),(v8,()),(v9,()),v10,v11,v12,(v13,()),v14,v15,v16,(v17,()),(v18,()),(v19,()),(v20,()),(v21,v22,v23,v24,v25,()),v26,v27,())))
def zq1756 (a0 : List Pf × List (List Ad)) (a1 : List Ls) (a2 : Int) (a3 : Oq) : Option (((List Pf × List (List Ad)) × (List Ls) × Int × Unit) × Ad × Int × Unit) :=
 (zq1701 a3).bind fun y1 =>
 br (!decide (y1.1 = 0))
  (some (((([] : List Pf),([] : List (List Ad))),([] : List Ls),0,()),(⟨false,0,0⟩ : Ad),y1.1,()))
  ((zq1710 a0 a1 a2).bind fun y2 =>
  br (decide (a3.kind = 1))
   ((loopN zq1742 FUEL (((()),(()),(lenL y2.1.1.1,()),(0,()),()),(a0.2,a0.1,a1,(a2,()),(a3,()),(0,()),([] : List (List Ad)),([] : List Pf),([] : List Ls),((⟨false,0,0⟩ : Ad),()),y2.1.1.2,y2.1.1.1,y2.1.2.1,(y2.1.2.2.1,()),(a3,()),((⟨false,0,0⟩ : Ad),()),(a3.pf,()),()))).bind fun y3 =>
   sumC y3 (fun y4 =>
    br (decide (y4.1.1.1 ≥ 0))
     (some (((([] : List Pf),([] : List (List Ad))),([] : List Ls),0,()),(⟨false,0,0⟩ : Ad),6,()))
     (br (decide (lenL y4.2.2.2.2.2.2.2.2.2.2.2.2.1 = 3))
      (some (((([] : List Pf),([] : List (List Ad))),([] : List Ls),0,()),(⟨false,0,0⟩ : Ad),2,()))
      (((loopN zq1733 FUEL (((()),(()),(()),(lenL y4.2.2.2.2.2.2.2.2.2.2.2.2.1,()),(0,()),(lenL y4.2.2.2.2.2.2.2.2.2.2.2.2.1,()),()),(y4.2.1,y4.2.2.1,y4.2.2.2.1,(y4.2.2.2.2.1.1,()),(y4.2.2.2.2.2.1.1,()),(y4.2.2.2.2.2.2.1.1,()),y4.2.2.2.2.2.2.2.1,y4.2.2.2.2.2.2.2.2.1,y4.2.2.2.2.2.2.2.2.2.1,(y4.2.2.2.2.2.2.2.2.2.2.1.1,()),y4.2.2.2.2.2.2.2.2.2.2.2.1,y4.2.2.2.2.2.2.2.2.2.2.2.2.1,y4.2.2.2.2.2.2.2.2.2.2.2.2.2.1,(y4.2.2.2.2.2.2.2.2.2.2.2.2.2.2.1.1,()),(y4.2.2.2.2.2.2.2.2.2.2.2.2.2.2.2.1.1,()),(y4.2.2.2.2.2.2.2.2.2.2.2.2.2.2.2.2.1.1,()),(y4.2.2.2.2.2.2.2.2.2.2.2.2.2.2.2.2.2.1.1,()),(y4.2.2.2.2.2.2.2.2.2.2.2.2.2.2.2.2.2.1.1,()),()))).bind fun y5 =>
       br (decide (y5.1.2.2.2.2.1.1 < y5.1.2.2.2.1.1))
        (req (zq908 y5.1.2.2.2.2.1.1 (lenL y5.2.2.2.2.2.2.2.2.2.2.2.2.1)) <|
        (geti y5.2.2.2.2.2.2.2.2.2.2.2.2.1 y5.1.2.2.2.2.1.1).bind fun p6 =>
        (zq377 p6 (getL y5.2.2.2.2.2.2.2.2.2.2.2.1 y5.1.2.2.2.2.1.1) y5.2.2.2.2.2.2.2.2.2.2.2.2.2.2.2.2.2.2.1.1).bind fun y7 =>
        some (y5.1.2.2.2.2.1.1,decide (y7.1 = 0),()))
        (some (y5.1.2.2.2.2.1.1,false,()))).bind fun y6 =>
      both
       (both
        (both
         (dup 1 <|
         req (decide (0 ≤ y6.1) && decide (y6.1 ≤ lenL y4.2.2.2.2.2.2.2.2.2.2.2.2.1) && room (lenL y4.2.2.2.2.2.2.2.2.2.2.2.2.1) 1) <|
         some (((insL y4.2.2.2.2.2.2.2.2.2.2.2.2.1 y6.1 y4.2.2.2.2.2.2.2.2.2.2.2.2.2.2.2.2.2.1.1,insL (padL y4.2.2.2.2.2.2.2.2.2.2.2.2.1.length y4.2.2.2.2.2.2.2.2.2.2.2.1) y6.1 ([] : List Ad)),y4.2.2.2.2.2.2.2.2.2.2.2.2.2.1,y4.2.2.2.2.2.2.2.2.2.2.2.2.2.2.1.1,()),(⟨false,0,0⟩ : Ad),0,()))
         (req (decide (0 ≤ y6.1) && decide (y6.1 ≤ lenL y4.2.2.2.2.2.2.2.2.2.2.2.2.1) && room (lenL y4.2.2.2.2.2.2.2.2.2.2.2.2.1) 1) <|
         some (((insL y4.2.2.2.2.2.2.2.2.2.2.2.2.1 y6.1 y4.2.2.2.2.2.2.2.2.2.2.2.2.2.2.2.2.2.1.1,insL (padL y4.2.2.2.2.2.2.2.2.2.2.2.2.1.length y4.2.2.2.2.2.2.2.2.2.2.2.1) y6.1 ([] : List Ad)),y4.2.2.2.2.2.2.2.2.2.2.2.2.2.1,y4.2.2.2.2.2.2.2.2.2.2.2.2.2.2.1.1,()),(⟨false,0,0⟩ : Ad),0,())))
        (req (decide (0 ≤ y6.1) && decide (y6.1 ≤ lenL y4.2.2.2.2.2.2.2.2.2.2.2.2.1) && room (lenL y4.2.2.2.2.2.2.2.2.2.2.2.2.1) 1) <|
        some (((insL y4.2.2.2.2.2.2.2.2.2.2.2.2.1 y6.1 y4.2.2.2.2.2.2.2.2.2.2.2.2.2.2.2.2.2.1.1,insL (padL y4.2.2.2.2.2.2.2.2.2.2.2.2.1.length y4.2.2.2.2.2.2.2.2.2.2.2.1) y6.1 ([] : List Ad)),y4.2.2.2.2.2.2.2.2.2.2.2.2.2.1,y4.2.2.2.2.2.2.2.2.2.2.2.2.2.2.1.1,()),(⟨false,0,0⟩ : Ad),0,())))
       (req (decide (0 ≤ y6.1) && decide (y6.1 ≤ lenL y4.2.2.2.2.2.2.2.2.2.2.2.2.1) && room (lenL y4.2.2.2.2.2.2.2.2.2.2.2.2.1) 1) <|
       some (((insL y4.2.2.2.2.2.2.2.2.2.2.2.2.1 y6.1 y4.2.2.2.2.2.2.2.2.2.2.2.2.2.2.2.2.2.1.1,insL (padL y4.2.2.2.2.2.2.2.2.2.2.2.2.1.length y4.2.2.2.2.2.2.2.2.2.2.2.1) y6.1 ([] : List Ad)),y4.2.2.2.2.2.2.2.2.2.2.2.2.2.1,y4.2.2.2.2.2.2.2.2.2.2.2.2.2.2.1.1,()),(⟨false,0,0⟩ : Ad),0,()))))) (fun y7 =>
    br (decide (lenL y7.2.2.2.2.2.2.2.2.2.2.2.2.1 = 3))
     (some (((([] : List Pf),([] : List (List Ad))),([] : List Ls),0,()),(⟨false,0,0⟩ : Ad),2,()))
     (((loopN zq1732 FUEL (((()),(()),(()),(lenL y7.2.2.2.2.2.2.2.2.2.2.2.2.1,()),(0,()),(lenL y7.2.2.2.2.2.2.2.2.2.2.2.2.1,()),()),(y7.2.1,y7.2.2.1,y7.2.2.2.1,(y7.2.2.2.2.1.1,()),(y7.2.2.2.2.2.1.1,()),(y7.2.2.2.2.2.2.1.1,()),y7.2.2.2.2.2.2.2.1,y7.2.2.2.2.2.2.2.2.1,y7.2.2.2.2.2.2.2.2.2.1,(y7.2.2.2.2.2.2.2.2.2.2.1.1,()),y7.2.2.2.2.2.2.2.2.2.2.2.1,y7.2.2.2.2.2.2.2.2.2.2.2.2.1,y7.2.2.2.2.2.2.2.2.2.2.2.2.2.1,(y7.2.2.2.2.2.2.2.2.2.2.2.2.2.2.1.1,()),(y7.2.2.2.2.2.2.2.2.2.2.2.2.2.2.2.1.1,()),(y7.2.2.2.2.2.2.2.2.2.2.2.2.2.2.2.2.1.1,()),(y7.2.2.2.2.2.2.2.2.2.2.2.2.2.2.2.2.2.1.1,()),(y7.2.2.2.2.2.2.2.2.2.2.2.2.2.2.2.2.2.1.1,()),()))).bind fun y8 =>
      br (decide (y8.1.2.2.2.2.1.1 < y8.1.2.2.2.1.1))
       (req (zq908 y8.1.2.2.2.2.1.1 (lenL y8.2.2.2.2.2.2.2.2.2.2.2.2.1)) <|
       (geti y8.2.2.2.2.2.2.2.2.2.2.2.2.1 y8.1.2.2.2.2.1.1).bind fun p9 =>
       (zq377 p9 (getL y8.2.2.2.2.2.2.2.2.2.2.2.1 y8.1.2.2.2.2.1.1) y8.2.2.2.2.2.2.2.2.2.2.2.2.2.2.2.2.2.2.1.1).bind fun y10 =>
       some (y8.1.2.2.2.2.1.1,decide (y10.1 = 0),()))
       (some (y8.1.2.2.2.2.1.1,false,()))).bind fun y9 =>
     both
      (both
       (both
        (dup 1 <|
        req (decide (0 ≤ y9.1) && decide (y9.1 ≤ lenL y7.2.2.2.2.2.2.2.2.2.2.2.2.1) && room (lenL y7.2.2.2.2.2.2.2.2.2.2.2.2.1) 1) <|
        some (((insL y7.2.2.2.2.2.2.2.2.2.2.2.2.1 y9.1 y7.2.2.2.2.2.2.2.2.2.2.2.2.2.2.2.2.2.1.1,insL (padL y7.2.2.2.2.2.2.2.2.2.2.2.2.1.length y7.2.2.2.2.2.2.2.2.2.2.2.1) y9.1 ([] : List Ad)),y7.2.2.2.2.2.2.2.2.2.2.2.2.2.1,y7.2.2.2.2.2.2.2.2.2.2.2.2.2.2.1.1,()),(⟨false,0,0⟩ : Ad),0,()))
        (req (decide (0 ≤ y9.1) && decide (y9.1 ≤ lenL y7.2.2.2.2.2.2.2.2.2.2.2.2.1) && room (lenL y7.2.2.2.2.2.2.2.2.2.2.2.2.1) 1) <|
        some (((insL y7.2.2.2.2.2.2.2.2.2.2.2.2.1 y9.1 y7.2.2.2.2.2.2.2.2.2.2.2.2.2.2.2.2.2.1.1,insL (padL y7.2.2.2.2.2.2.2.2.2.2.2.2.1.length y7.2.2.2.2.2.2.2.2.2.2.2.1) y9.1 ([] : List Ad)),y7.2.2.2.2.2.2.2.2.2.2.2.2.2.1,y7.2.2.2.2.2.2.2.2.2.2.2.2.2.2.1.1,()),(⟨false,0,0⟩ : Ad),0,())))
       (req (decide (0 ≤ y9.1) && decide (y9.1 ≤ lenL y7.2.2.2.2.2.2.2.2.2.2.2.2.1) && room (lenL y7.2.2.2.2.2.2.2.2.2.2.2.2.1) 1) <|
       some (((insL y7.2.2.2.2.2.2.2.2.2.2.2.2.1 y9.1 y7.2.2.2.2.2.2.2.2.2.2.2.2.2.2.2.2.2.1.1,insL (padL y7.2.2.2.2.2.2.2.2.2.2.2.2.1.length y7.2.2.2.2.2.2.2.2.2.2.2.1) y9.1 ([] : List Ad)),y7.2.2.2.2.2.2.2.2.2.2.2.2.2.1,y7.2.2.2.2.2.2.2.2.2.2.2.2.2.2.1.1,()),(⟨false,0,0⟩ : Ad),0,())))
      (req (decide (0 ≤ y9.1) && decide (y9.1 ≤ lenL y7.2.2.2.2.2.2.2.2.2.2.2.2.1) && room (lenL y7.2.2.2.2.2.2.2.2.2.2.2.2.1) 1) <|
      some (((insL y7.2.2.2.2.2.2.2.2.2.2.2.2.1 y9.1 y7.2.2.2.2.2.2.2.2.2.2.2.2.2.2.2.2.2.1.1,insL (padL y7.2.2.2.2.2.2.2.2.2.2.2.2.1.length y7.2.2.2.2.2.2.2.2.2.2.2.1) y9.1 ([] : List Ad)),y7.2.2.2.2.2.2.2.2.2.2.2.2.2.1,y7.2.2.2.2.2.2.2.2.2.2.2.2.2.2.1.1,()),(⟨false,0,0⟩ : Ad),0,())))))
   (br (decide (a3.kind = 2))
    ((zq1780 y2.1.1 y2.1.2.1 y2.1.2.2.1 a3.ad).bind fun y3 =>
    br (decide (y3.1 < 0))
     (some (((([] : List Pf),([] : List (List Ad))),([] : List Ls),0,()),(⟨false,0,0⟩ : Ad),5,()))
     (req (zq908 y3.1 (lenL y2.1.1.1)) <|
     req (zq908 y3.1 (lenL y2.1.1.1)) <|
     req (zq908 y3.1 (lenL y2.1.1.1)) <|
     (geti y2.1.1.1 y3.1).bind fun p4 =>
     ((loopN zq1723 FUEL (((y3.1,()),(()),(()),(lenL (getL y2.1.1.2 y3.1),()),(0,()),(lenL (getL y2.1.1.2 y3.1),()),()),(a0.2,a0.1,a1,(a2,()),(a3,()),(0,()),([] : List (List Ad)),([] : List Pf),([] : List Ls),((⟨false,0,0⟩ : Ad),()),y2.1.1.2,y2.1.1.1,y2.1.2.1,(y2.1.2.2.1,()),(a3,()),((⟨false,0,0⟩ : Ad),()),(a3.ad,()),(a3.ad,()),()))).bind fun y5 =>
      br (decide (y5.1.2.2.2.2.1.1 < y5.1.2.2.2.1.1))
       (req (zq908 y5.1.2.2.2.2.1.1 (lenL (getL y5.2.2.2.2.2.2.2.2.2.2.2.1 y5.1.1.1))) <|
       (geti (getL y5.2.2.2.2.2.2.2.2.2.2.2.1 y5.1.1.1) y5.1.2.2.2.2.1.1).bind fun p6 =>
       (zq420 p6 y5.2.2.2.2.2.2.2.2.2.2.2.2.2.2.2.2.2.2.1.1).bind fun y7 =>
       some (y5.1.2.2.2.2.1.1,decide (y7.1 = 0),()))
       (some (y5.1.2.2.2.2.1.1,false,()))).bind fun y6 =>
     br y6.2.1
      (some (((([] : List Pf),([] : List (List Ad))),([] : List Ls),0,()),(⟨false,0,0⟩ : Ad),6,()))
      (req (zq908 y3.1 (lenL y2.1.1.1)) <|
      req (zq908 y3.1 (lenL y2.1.1.1)) <|
      (geti y2.1.1.1 y3.1).bind fun p7 =>
      br (decide (lenL (getL y2.1.1.2 y3.1) = 6))
       (some (((([] : List Pf),([] : List (List Ad))),([] : List Ls),0,()),(⟨false,0,0⟩ : Ad),2,()))
       (req (zq908 y3.1 (lenL y2.1.1.1)) <|
       req (zq908 y3.1 (lenL y2.1.1.1)) <|
       (geti y2.1.1.1 y3.1).bind fun p8 =>
       req (decide (0 ≤ y3.1)) <|
       req (decide (0 ≤ y6.1) && decide (y6.1 ≤ lenL (getL y2.1.1.2 y3.1)) && room (lenL (getL y2.1.1.2 y3.1)) 1) <|
       req (zq908 y3.1 (lenL y2.1.1.1)) <|
       req (zq908 y3.1 (lenL y2.1.1.1)) <|
       req (decide (y3.1 = y3.1)) <|
       (geti y2.1.1.1 y3.1).bind fun p9 =>
       some (((seti y2.1.1.1 y3.1 p9,seti (padL y2.1.1.1.length (outL y2.1.1.2 y3.1)) y3.1 (insL (getL y2.1.1.2 y3.1) y6.1 a3.ad)),y2.1.2.1,y2.1.2.2.1,()),(⟨false,0,0⟩ : Ad),0,())))))
    (br (decide (a3.kind = 3))
     (br (decide (a3.of_ ≥ lenL y2.1.1.1))
      (some (((([] : List Pf),([] : List (List Ad))),([] : List Ls),0,()),(⟨false,0,0⟩ : Ad),5,()))
      (req (zq908 a3.of_ (lenL y2.1.1.1)) <|
      (geti y2.1.1.1 a3.of_).bind fun p3 =>
      (zq367 y2.1.1 y2.1.2.1 y2.1.2.2.1 a3.who).bind fun y4 =>
      (br (decide (y4.1 ≥ 0))
        (req (zq908 y4.1 (lenL y2.1.2.1)) <|
        req (zq908 y4.1 (lenL y2.1.2.1)) <|
        (geti y2.1.2.1 y4.1).bind fun p5 =>
        (zq1426 p3 p5.ad).bind fun y6 =>
        some (!y6.1))
        (some false)).bind fun c5 =>
      br c5
       (some (((([] : List Pf),([] : List (List Ad))),([] : List Ls),0,()),(⟨false,0,0⟩ : Ad),6,()))
       ((loopN zq1714 FUEL (((()),(a3.who,()),(a3.n,()),(()),(()),(()),(()),(()),(lenL y2.1.2.1,()),(0,()),()),(a0.2,a0.1,a1,(a2,()),(a3,()),(0,()),([] : List (List Ad)),([] : List Pf),([] : List Ls),((⟨false,0,0⟩ : Ad),()),y2.1.1.2,y2.1.1.1,y2.1.2.1,(y2.1.2.2.1,()),(a3,()),((⟨false,0,0⟩ : Ad),()),((⟨false,0,0⟩ : Ad),()),(p3.ad.v6,p3.ad.hi,p3.ad.lo,p3.bits,a3.of_,()),([] : List Ls),([] : List Ls),()))).bind fun y6 =>
       dup 1 <|
       (zq1090 (⟨(⟨y6.2.2.2.2.2.2.2.2.2.2.2.2.2.2.2.2.2.2.1.1,y6.2.2.2.2.2.2.2.2.2.2.2.2.2.2.2.2.2.2.1.2.1,y6.2.2.2.2.2.2.2.2.2.2.2.2.2.2.2.2.2.2.1.2.2.1⟩ : Ad),y6.2.2.2.2.2.2.2.2.2.2.2.2.2.2.2.2.2.2.1.2.2.2.1⟩ : Pf) (getL y6.2.2.2.2.2.2.2.2.2.2.2.1 y6.2.2.2.2.2.2.2.2.2.2.2.2.2.2.2.2.2.2.1.2.2.2.2.1) y6.2.2.2.2.2.2.2.2.2.2.2.2.2.2.2.2.2.2.2.1 y6.1.2.1.1 y6.2.2.2.2.2.2.2.2.2.2.2.2.2.2.1.1 y6.1.2.2.1.1).bind fun y7 =>
       br (!y7.2.2.1)
        (some (((([] : List Pf),([] : List (List Ad))),([] : List Ls),0,()),(⟨false,0,0⟩ : Ad),8,()))
        (req (i64ok ((lenL y7.1) + (lenL y6.2.2.2.2.2.2.2.2.2.2.2.2.2.2.2.2.2.2.2.2.1))) <|
        br (decide ((lenL y7.1) + (lenL y6.2.2.2.2.2.2.2.2.2.2.2.2.2.2.2.2.2.2.2.2.1) > 20))
         (some (((([] : List Pf),([] : List (List Ad))),([] : List Ls),0,()),(⟨false,0,0⟩ : Ad),2,()))
         (req (room (lenL y7.1) (lenL y6.2.2.2.2.2.2.2.2.2.2.2.2.2.2.2.2.2.2.2.2.1)) <|
         req (zq1685 (y7.1 ++ y6.2.2.2.2.2.2.2.2.2.2.2.2.2.2.2.2.2.2.2.2.1)) <|
         some (((y6.2.2.2.2.2.2.2.2.2.2.2.2.1,y6.2.2.2.2.2.2.2.2.2.2.2.1),sortL (y7.1 ++ y6.2.2.2.2.2.2.2.2.2.2.2.2.2.2.2.2.2.2.2.2.1),y6.2.2.2.2.2.2.2.2.2.2.2.2.2.2.1.1,()),y7.2.1,0,()))))))
     (br (decide (a3.kind = 4))
      ((zq367 y2.1.1 y2.1.2.1 y2.1.2.2.1 a3.who).bind fun y3 =>
      br (decide (y3.1 < 0))
       (some (((([] : List Pf),([] : List (List Ad))),([] : List Ls),0,()),(⟨false,0,0⟩ : Ad),5,()))
       (req (zq908 y3.1 (lenL y2.1.2.1)) <|
       req (zq908 y3.1 (lenL y2.1.2.1)) <|
       (geti y2.1.2.1 y3.1).bind fun p4 =>
       req (i64ok (y3.1 + 1)) <|
       req (decide (0 ≤ y3.1) && decide (y3.1 ≤ y3.1 + 1) && decide (y3.1 + 1 ≤ lenL y2.1.2.1)) <|
       some ((y2.1.1,delL y2.1.2.1 y3.1 (y3.1 + 1),y2.1.2.2.1,()),p4.ad,0,())))
      (br (decide (a3.n < y2.1.2.2.1))
       (some (((([] : List Pf),([] : List (List Ad))),([] : List Ls),0,()),(⟨false,0,0⟩ : Ad),4,()))
       ((zq1055 y2.1.2.1 a3.n).bind fun y3 =>
       some ((y2.1.1,y3.1,a3.n,()),(⟨false,0,0⟩ : Ad),0,())))))))
abbrev log_All_L3_A := ((Unit × Unit × Unit × (Int × Unit) × (Int × Unit) × Unit) × (List En × (Int × Unit) × (Int × Unit) × List Pf × List Ls × List Pf × List Ls × List Ad × List (List Ad) × List (List Ad) × Unit))
abbrev log_All_L3_B := Option ((Unit × Unit × Unit) × (List En × (Int × Unit) × (Int × Unit) × List Pf × List Ls × List Pf × List Ls × List Ad × List (List Ad) × List (List Ad) × Unit))
def zq1124 (rec : log_All_L3_A → log_All_L3_B) (x : log_All_L3_A) : log_All_L3_B :=
 let v0 := x.1.2.2.2.1.1
 let v1 := x.1.2.2.2.2.1.1
 let v2 := x.2.1
 let v3 := x.2.2.1.1
 let v4 := x.2.2.2.1.1
 let v5 := x.2.2.2.2.1
 let zz := x.2.2.2.2.2
 let v6 := zz.1
 let v7 := zz.2.1
 let v8 := zz.2.2.1
 let v9 := zz.2.2.2.1
 let v10 := zz.2.2.2.2.1
 let v11 := zz.2.2.2.2.2.1
 br (decide (v1 < v0))
  (req (zq908 v1 (lenL v2)) <|
  (geti v2 v1).bind fun p1 =>
  both
   ((zq1756 (v7,v11) v8 v4 p1.op).bind fun y2 =>
   dup 1 <|
   br (decide (y2.2.2.1 = 0))
    (req (room (lenL v9) (lenL ([y2.2.1] : List Ad))) <|
    req (i64ok (v1 + 1)) <|
    rec (((),(),(),(v0,()),(v1 + 1,()),()),(v2,(v3,()),(y2.1.2.2.1,()),v5,v6,y2.1.1.1,y2.1.2.1,v9 ++ ([y2.2.1] : List Ad),v10,y2.1.1.2,())))
    (req (room (lenL v9) (lenL ([y2.2.1] : List Ad))) <|
    req (i64ok (v1 + 1)) <|
    rec (((),(),(),(v0,()),(v1 + 1,()),()),(v2,(v3,()),(v4,()),v5,v6,v7,v8,v9 ++ ([y2.2.1] : List Ad),v10,v11,()))))
   (both
    (dup 1 <|
    (zq1756 (v7,v11) v8 v4 p1.op).bind fun y2 =>
    br (decide (y2.2.2.1 = 0))
     (req (room (lenL v9) (lenL ([y2.2.1] : List Ad))) <|
     req (i64ok (v1 + 1)) <|
     rec (((),(),(),(v0,()),(v1 + 1,()),()),(v2,(v3,()),(y2.1.2.2.1,()),v5,v6,y2.1.1.1,y2.1.2.1,v9 ++ ([y2.2.1] : List Ad),v10,y2.1.1.2,())))
     (req (room (lenL v9) (lenL ([y2.2.1] : List Ad))) <|
     req (i64ok (v1 + 1)) <|
     rec (((),(),(),(v0,()),(v1 + 1,()),()),(v2,(v3,()),(v4,()),v5,v6,v7,v8,v9 ++ ([y2.2.1] : List Ad),v10,v11,()))))
    (dup 1 <|
    (zq1756 (v7,v11) v8 v4 p1.op).bind fun y2 =>
    br (decide (y2.2.2.1 = 0))
     (req (room (lenL v9) (lenL ([y2.2.1] : List Ad))) <|
     req (i64ok (v1 + 1)) <|
     rec (((),(),(),(v0,()),(v1 + 1,()),()),(v2,(v3,()),(y2.1.2.2.1,()),v5,v6,y2.1.1.1,y2.1.2.1,v9 ++ ([y2.2.1] : List Ad),v10,y2.1.1.2,())))
     (req (room (lenL v9) (lenL ([y2.2.1] : List Ad))) <|
     req (i64ok (v1 + 1)) <|
     rec (((),(),(),(v0,()),(v1 + 1,()),()),(v2,(v3,()),(v4,()),v5,v6,v7,v8,v9 ++ ([y2.2.1] : List Ad),v10,v11,()))))))
  (some (((),(),()),(v2,(v3,()),(v4,()),v5,v6,v7,v8,v9,v10,v11,())))
def zq1135 (a0 : List En) : Option (((List Pf × List (List Ad)) × (List Ls) × Int × Unit) × (List Ad) × Unit) :=
 (loopN zq1124 FUEL (((()),(()),(()),(lenL a0,()),(0,()),()),(a0,(0,()),(0,()),([] : List Pf),([] : List Ls),([] : List Pf),([] : List Ls),([] : List Ad),([] : List (List Ad)),([] : List (List Ad)),()))).bind fun y1 =>
 some (((y1.2.2.2.2.2.2.1,y1.2.2.2.2.2.2.2.2.2.2.1),y1.2.2.2.2.2.2.2.1,y1.2.2.2.1.1,()),y1.2.2.2.2.2.2.2.2.1,())
def zq641 (a0 : Int) (a1 : Int) (a2 : Int) (a3 : Int) (a4 : List En) (a5 : List Int × List (List En)) (a6 : Int) : Option (((List Pf × List (List Ad)) × (List Ls) × Int × Unit) × Int × Unit) :=
 (zq602 a0 a1 a2 a3 a4 a5).bind fun y1 =>
 (br (decide (y1.1 = 0))
   ((zq659 a6 1 2).bind fun y2 =>
   some (!y2.1))
   (some false)).bind fun c2 =>
 br c2
  (some (((([] : List Pf),([] : List (List Ad))),([] : List Ls),0,()),3,()))
  (br (!decide (y1.1 = 0))
   (some (((([] : List Pf),([] : List (List Ad))),([] : List Ls),0,()),y1.1,()))
   (req (i64ok (a6 - 1)) <|
   req (zq908 (a6 - 1) (lenL a5.1)) <|
   req (zq908 (a6 - 1) (lenL a5.1)) <|
   (geti a5.1 (a6 - 1)).bind fun p3 =>
   (zq1135 (getL a5.2 (a6 - 1))).bind fun y4 =>
   some ((y4.1.1,y4.1.2.1,y4.1.2.2.1,()),0,())))
abbrev R_GrantOf_L13_A := (((ByteArray × Unit) × (Int × Unit) × (Int × Unit) × Unit × Unit × Unit × Unit × Unit × (Int × Unit) × (Bool × Unit) × (Int × Unit) × Unit) × (List Ad × List Ls × (Bool × Int × Int × Int × Unit) × (Ad × Unit) × List Ls × List Ls × (Ad × Unit) × Unit))
abbrev R_GrantOf_L13_B := Option (((ByteArray × Unit) × (Int × Unit) × (Int × Unit) × Unit × Unit × Unit × Unit × Unit × (Int × Unit) × (Bool × Unit) × Unit) × (List Ad × List Ls × (Bool × Int × Int × Int × Unit) × (Ad × Unit) × List Ls × List Ls × (Ad × Unit) × Unit))
def zq151 (rec : R_GrantOf_L13_A → R_GrantOf_L13_B) (x : R_GrantOf_L13_A) : R_GrantOf_L13_B :=
 let v0 := x.1.1.1
 let v1 := x.1.2.1.1
 let v2 := x.1.2.2.1.1
 let v3 := x.1.2.2.2.2.2.2.2.2.1.1
 let v4 := x.1.2.2.2.2.2.2.2.2.2.1.1
 let v5 := x.1.2.2.2.2.2.2.2.2.2.2.1.1
 let v6 := x.2.1
 let v7 := x.2.2.1
 let zz := x.2.2.2
 let v8 := zz.1.1
 let v9 := zz.1.2.1
 let v10 := zz.1.2.2.1
 let v11 := zz.1.2.2.2.1
 let v12 := zz.2.1.1
 let v13 := zz.2.2.1
 let v14 := zz.2.2.2.1
 let v15 := zz.2.2.2.2.1.1
 br (decide (v5 < lenL v13))
  ((br v4
    (some true)
    (req (zq908 v5 (lenL v13)) <|
    req (zq908 v5 (lenL v13)) <|
    (geti v13 v5).bind fun p1 =>
    some (eqAd p1.ad v15))).bind fun c1 =>
  req (i64ok (v5 + 1)) <|
  rec (((v0,()),(v1,()),(v2,()),(),(),(),(),(),(v3,()),(c1,()),(v5 + 1,()),()),(v6,v7,(v8,v9,v10,v11,()),(v12,()),v13,v14,(v15,()),())))
  (some (((v0,()),(v1,()),(v2,()),(),(),(),(),(),(v3,()),(v4,()),()),(v6,v7,(v8,v9,v10,v11,()),(v12,()),v13,v14,(v15,()),())))
abbrev R_GrantOf_L20_A := ((Unit × Unit × Unit × Unit × Unit × (Bool × Unit) × (Int × Unit) × Unit) × (List Ad × List Ls × (Ad × Unit) × List Ls × List Ls × (Ad × Unit) × (Ls × Unit) × Unit))
abbrev R_GrantOf_L20_B := Option ((Unit × Unit × Unit × Unit × (Bool × Unit) × Unit) × (List Ad × List Ls × (Ad × Unit) × List Ls × (Ad × Unit) × (Ls × Unit) × Unit))
def zq154 (rec : R_GrantOf_L20_A → R_GrantOf_L20_B) (x : R_GrantOf_L20_A) : R_GrantOf_L20_B :=
 let v0 := x.1.2.2.2.2.2.1.1
 let v1 := x.1.2.2.2.2.2.2.1.1
 let v2 := x.2.1
 let v3 := x.2.2.1
 let v4 := x.2.2.2.1.1
 let zz := x.2.2.2.2
 let v5 := zz.1
 let v6 := zz.2.1
 let v7 := zz.2.2.1.1
 let v8 := zz.2.2.2.1.1
 br (decide (v1 < lenL v5))
  ((br (!v0)
    (req (zq908 v1 (lenL v5)) <|
    req (zq908 v1 (lenL v5)) <|
    (geti v5 v1).bind fun p1 =>
    (zq186 v7 p1.ad).bind fun y2 =>
    some y2.1)
    (some false)).bind fun c1 =>
  br c1
   (req (room (lenL v6) (lenL ([v8] : List Ls))) <|
   req (zq908 v1 (lenL v5)) <|
   (geti v5 v1).bind fun p2 =>
   req (room (lenL (v6 ++ ([v8] : List Ls))) (lenL ([p2] : List Ls))) <|
   req (i64ok (v1 + 1)) <|
   rec (((),(),(),(),(),(true,()),(v1 + 1,()),()),(v2,v3,(v4,()),v5,(v6 ++ ([v8] : List Ls)) ++ ([p2] : List Ls),(v7,()),(v8,()),())))
   (req (zq908 v1 (lenL v5)) <|
   (geti v5 v1).bind fun p2 =>
   req (room (lenL v6) (lenL ([p2] : List Ls))) <|
   req (i64ok (v1 + 1)) <|
   rec (((),(),(),(),(),(v0,()),(v1 + 1,()),()),(v2,v3,(v4,()),v5,v6 ++ ([p2] : List Ls),(v7,()),(v8,()),()))))
  (some (((),(),(),(),(v0,()),()),(v2,v3,(v4,()),v6,(v7,()),(v8,()),())))
abbrev R_GrantOf_L9_A := (((ByteArray × Unit) × (Int × Unit) × (Int × Unit) × Unit × Unit × Unit × Unit × Unit × (Int × Unit) × Unit) × (List Ad × List Ls × (Bool × Int × Int × Int × Unit) × (Ad × Unit) × List Ls × List Ls × (Ad × Unit) × Unit))
abbrev R_GrantOf_L9_B := Option (((Unit × Unit × (Bool × Unit) × Unit) × (List Ad × List Ls × List Ls × (Ad × Unit) × Unit)) ⊕ ((Unit × Unit) × (List Ad × List Ls × (Ad × Unit) × Unit)))
def zq157 (rec : R_GrantOf_L9_A → R_GrantOf_L9_B) (x : R_GrantOf_L9_A) : R_GrantOf_L9_B :=
 let v0 := x.1.1.1
 let v1 := x.1.2.1.1
 let v2 := x.1.2.2.1.1
 let v3 := x.1.2.2.2.2.2.2.2.2.1.1
 let v4 := x.2.1
 let v5 := x.2.2.1
 let zz := x.2.2.2
 let v6 := zz.1.1
 let v7 := zz.1.2.1
 let v8 := zz.1.2.2.1
 let v9 := zz.1.2.2.2.1
 let v10 := zz.2.1.1
 let v11 := zz.2.2.1
 let v12 := zz.2.2.2.1
 let v13 := zz.2.2.2.2.1.1
 br (decide (v3 < 16))
  ((loopN zq151 FUEL (((v0,()),(v1,()),(v2,()),(),(),(),(),(),(v3,()),(false,()),(0,()),()),(v4,v5,(v6,v7,v8,v9,()),(v10,()),v11,v12,(v13,()),()))).bind fun y1 =>
  (zq171 (⟨(⟨y1.2.2.2.1.1,y1.2.2.2.1.2.1,y1.2.2.2.1.2.2.1⟩ : Ad),y1.2.2.2.1.2.2.2.1⟩ : Pf) y1.2.2.2.2.2.2.2.1.1).bind fun y2 =>
  (br y2.1
    (some (!y1.1.2.2.2.2.2.2.2.2.2.1.1))
    (some false)).bind fun c3 =>
  (br c3
    ((zq318 y1.2.1 y1.2.2.2.2.2.2.2.1.1).bind fun y4 =>
    some (!y4.1))
    (some false)).bind fun c4 =>
  br c4
   (req (i64ok (y1.1.2.1.1 + y1.1.2.2.1.1)) <|
   (loopN zq154 FUEL (((),(),(),(),(),(false,()),(0,()),()),(y1.2.1,y1.2.2.1,(y1.2.2.2.2.1.1,()),y1.2.2.2.2.2.1,y1.2.2.2.2.2.2.1,(y1.2.2.2.2.2.2.2.1.1,()),((⟨y1.2.2.2.2.2.2.2.1.1,y1.1.1.1,y1.1.2.1.1 + y1.1.2.2.1.1⟩ : Ls),()),()))).bind fun y5 =>
   br (!y5.1.2.2.2.2.1.1)
    (req (room (lenL y5.2.2.2.2.1) (lenL ([y5.2.2.2.2.2.2.1.1] : List Ls))) <|
    some (Sum.inl (((),(),(true,()),()),(y5.2.1,y5.2.2.1,y5.2.2.2.2.1 ++ ([y5.2.2.2.2.2.2.1.1] : List Ls),(y5.2.2.2.2.2.1.1,()),()))))
    (some (Sum.inl (((),(),(true,()),()),(y5.2.1,y5.2.2.1,y5.2.2.2.2.1,(y5.2.2.2.2.2.1.1,()),())))))
   ((zq214 y1.2.2.2.2.2.2.2.1.1).bind fun y5 =>
   br (!y5.2.1)
    (some (Sum.inr ((((),()),(y1.2.1,y1.2.2.1,(y1.2.2.2.2.1.1,()),())))))
    (req (i64ok (y1.1.2.2.2.2.2.2.2.2.1.1 + 1)) <|
    rec (((y1.1.1.1,()),(y1.1.2.1.1,()),(y1.1.2.2.1.1,()),(),(),(),(),(),(y1.1.2.2.2.2.2.2.2.2.1.1 + 1,()),()),(y1.2.1,y1.2.2.1,(y1.2.2.2.1.1,y1.2.2.2.1.2.1,y1.2.2.2.1.2.2.1,y1.2.2.2.1.2.2.2.1,()),(y1.2.2.2.2.1.1,()),y1.2.2.2.2.2.1,y1.2.2.2.2.2.2.1,(y5.1,()),())))))
  (some (Sum.inr ((((),()),(v4,v5,(v10,()),())))))
def zq165 (a0 : Pf) (a1 : List Ad) (a2 : List Ls) (a3 : ByteArray) (a4 : Int) (a5 : Int) : Option ((List Ls) × Ad × Bool × Unit) :=
 (zq210 a2 a4).bind fun y1 =>
 (zq297 y1.1 a3).bind fun y2 =>
 br (decide (y2.1 ≥ 0))
  (req (i64ok (a4 + a5)) <|
  req (zq908 y2.1 (lenL y1.1)) <|
  req (zq908 y2.1 (lenL y1.1)) <|
  (geti y1.1 y2.1).bind fun p3 =>
  req (zq908 y2.1 (lenL (seti y1.1 y2.1 (⟨p3.ad,p3.who,a4 + a5⟩ : Ls)))) <|
  req (zq908 y2.1 (lenL (seti y1.1 y2.1 (⟨p3.ad,p3.who,a4 + a5⟩ : Ls)))) <|
  (geti (seti y1.1 y2.1 (⟨p3.ad,p3.who,a4 + a5⟩ : Ls)) y2.1).bind fun p4 =>
  some (seti y1.1 y2.1 (⟨p3.ad,p3.who,a4 + a5⟩ : Ls),p4.ad,true,()))
  ((loopN zq157 FUEL (((a3,()),(a4,()),(a5,()),(()),(()),(()),(()),(()),(0,()),()),(a1,a2,(a0.ad.v6,a0.ad.hi,a0.ad.lo,a0.bits,()),((⟨false,0,0⟩ : Ad),()),y1.1,([] : List Ls),(a0.ad,()),()))).bind fun y3 =>
  sumC y3 (fun y4 =>
   some (y4.2.2.2.1,y4.2.2.2.2.1.1,y4.1.2.2.1.1,())) (fun y5 =>
   some (([] : List Ls),(⟨false,0,0⟩ : Ad),false,())))
abbrev R_DoOf_L10_A := ((Unit × Unit × Unit × Unit × Unit × (Bool × Unit) × (Int × Unit) × Unit) × (List (List Ad) × List Pf × List Ls × Unit × (Int × Unit) × (Oq × Unit) × (Int × Unit) × (Ad × Unit) × (Int × Unit) × List Pf × List Ls × List Pf × List (List Ad) × List (List Ad) × Unit))
abbrev R_DoOf_L10_B := Option (((Unit × Unit × (Int × Unit) × Unit) × (List (List Ad) × List Pf × List Ls × Unit × (Int × Unit) × (Ad × Unit) × List Pf × List Ls × List (List Ad) × Unit)) ⊕ ((Unit × Unit × Unit × Unit × (Bool × Unit) × Unit) × (List (List Ad) × List Pf × List Ls × Unit × (Oq × Unit) × (Int × Unit) × (Ad × Unit) × (Int × Unit) × List Pf × List Ls × List Pf × List (List Ad) × List (List Ad) × Unit)))
def zq115 (rec : R_DoOf_L10_A → R_DoOf_L10_B) (x : R_DoOf_L10_A) : R_DoOf_L10_B :=
 let v0 := x.1.2.2.2.2.2.1.1
 let v1 := x.1.2.2.2.2.2.2.1.1
 let v2 := x.2.1
 let v3 := x.2.2.1
 let v4 := x.2.2.2.1
 let v5 := x.2.2.2.2.2.1.1
 let v6 := x.2.2.2.2.2.2.1.1
 let zz := x.2.2.2.2.2.2.2
 let v7 := zz.1.1
 let v8 := zz.2.1.1
 let v9 := zz.2.2.1.1
 let v10 := zz.2.2.2.1
 let v11 := zz.2.2.2.2.1
 let v12 := zz.2.2.2.2.2.1
 let v13 := zz.2.2.2.2.2.2.1
 let v14 := zz.2.2.2.2.2.2.2.1
 br (decide (v1 < lenL v3))
  (req (zq908 v1 (lenL v3)) <|
  req (zq908 v1 (lenL v3)) <|
  (geti v3 v1).bind fun p1 =>
  (zq114 p1 v6.pf).bind fun y2 =>
  br y2.1
   (some (Sum.inl (((),(),(6,()),()),(v2,v3,v4,(),(0,()),((⟨false,0,0⟩ : Ad),()),[],[],[],()))))
   ((br (!v0)
     (req (zq908 v1 (lenL v3)) <|
     req (zq908 v1 (lenL v3)) <|
     (geti v3 v1).bind fun p3 =>
     (zq229 v6.pf p3).bind fun y4 =>
     some y4.1)
     (some false)).bind fun c3 =>
   br c3
    (req (room (lenL v12) (lenL ([v6.pf] : List Pf))) <|
    req (zq908 v1 (lenL v3)) <|
    (geti v3 v1).bind fun p4 =>
    both
     (dup 1 <|
     req (room (lenL (v12 ++ ([v6.pf] : List Pf))) (lenL ([p4] : List Pf))) <|
     req (i64ok (v1 + 1)) <|
     rec (((),(),(),(),(),(true,()),(v1 + 1,()),()),(v2,v3,v4,(),(v5,()),(v6,()),(v7,()),(v8,()),(v9,()),v10,v11,(v12 ++ ([v6.pf] : List Pf)) ++ ([p4] : List Pf),v13,padL (v12 ++ ([v6.pf] : List Pf)).length (padL v12.length v14 ++ ([[]] : List (List Ad))) ++ ([getL v2 v1] : List (List Ad)),())))
     (req (room (lenL (v12 ++ ([v6.pf] : List Pf))) (lenL ([p4] : List Pf))) <|
     req (i64ok (v1 + 1)) <|
     rec (((),(),(),(),(),(true,()),(v1 + 1,()),()),(v2,v3,v4,(),(v5,()),(v6,()),(v7,()),(v8,()),(v9,()),v10,v11,(v12 ++ ([v6.pf] : List Pf)) ++ ([p4] : List Pf),v13,padL (v12 ++ ([v6.pf] : List Pf)).length (padL v12.length v14 ++ ([[]] : List (List Ad))) ++ ([getL v2 v1] : List (List Ad)),()))))
    (req (zq908 v1 (lenL v3)) <|
    (geti v3 v1).bind fun p4 =>
    both
     (dup 1 <|
     req (room (lenL v12) (lenL ([p4] : List Pf))) <|
     req (i64ok (v1 + 1)) <|
     rec (((),(),(),(),(),(v0,()),(v1 + 1,()),()),(v2,v3,v4,(),(v5,()),(v6,()),(v7,()),(v8,()),(v9,()),v10,v11,v12 ++ ([p4] : List Pf),v13,padL v12.length v14 ++ ([getL v2 v1] : List (List Ad)),())))
     (req (room (lenL v12) (lenL ([p4] : List Pf))) <|
     req (i64ok (v1 + 1)) <|
     rec (((),(),(),(),(),(v0,()),(v1 + 1,()),()),(v2,v3,v4,(),(v5,()),(v6,()),(v7,()),(v8,()),(v9,()),v10,v11,v12 ++ ([p4] : List Pf),v13,padL v12.length v14 ++ ([getL v2 v1] : List (List Ad)),()))))))
  (some (Sum.inr ((((),(),(),(),(v0,()),()),(v2,v3,v4,(),(v6,()),(v7,()),(v8,()),(v9,()),v10,v11,v12,v13,v14,())))))
abbrev R_DoOf_L33_A := ((Unit × Unit × Unit × Unit × (Int × Unit) × Unit × (Int × Unit) × Unit) × (List (List Ad) × List Pf × List Ls × Unit × (Int × Unit) × (Int × Unit) × (Ad × Unit) × (Int × Unit) × List Ad × List Pf × List Ls × List (List Ad) × Unit))
abbrev R_DoOf_L33_B := Option ((Unit × Unit × Unit × Unit × (Int × Unit) × Unit × Unit) × (List (List Ad) × List Pf × List Ls × Unit × (Int × Unit) × (Int × Unit) × (Ad × Unit) × (Int × Unit) × List Ad × List Pf × List Ls × List (List Ad) × Unit))
def zq118 (rec : R_DoOf_L33_A → R_DoOf_L33_B) (x : R_DoOf_L33_A) : R_DoOf_L33_B :=
 let v0 := x.1.2.2.2.2.1.1
 let v1 := x.1.2.2.2.2.2.2.1.1
 let v2 := x.2.1
 let v3 := x.2.2.1
 let v4 := x.2.2.2.1
 let v5 := x.2.2.2.2.2.1.1
 let zz := x.2.2.2.2.2.2
 let v6 := zz.1.1
 let v7 := zz.2.1.1
 let v8 := zz.2.2.1.1
 let v9 := zz.2.2.2.1
 let v10 := zz.2.2.2.2.1
 let v11 := zz.2.2.2.2.2.1
 let v12 := zz.2.2.2.2.2.2.1
 (br (decide (v1 > 0))
   (req (zq908 v1 (lenL v9)) <|
   (geti v9 v1).bind fun p1 =>
   req (i64ok (v1 - 1)) <|
   req (zq908 (v1 - 1) (lenL v9)) <|
   (geti v9 (v1 - 1)).bind fun p2 =>
   (zq186 p1 p2).bind fun y3 =>
   some y3.1)
   (some false)).bind fun c1 =>
 br c1
  (req (i64ok (v1 - 1)) <|
  req (i64ok (v1 - 1)) <|
  req (zq908 (v1 - 1) (lenL v9)) <|
  (geti v9 (v1 - 1)).bind fun p2 =>
  req (zq908 v1 (lenL v9)) <|
  (geti v9 v1).bind fun p3 =>
  req (zq908 v1 (lenL v9)) <|
  (geti v9 v1).bind fun p4 =>
  req (zq908 (v1 - 1) (lenL (seti v9 v1 p2))) <|
  (geti (seti v9 v1 p2) (v1 - 1)).bind fun p5 =>
  req (i64ok (v1 - 1)) <|
  rec (((),(),(),(),(v0,()),(),(v1 - 1,()),()),(v2,v3,v4,(),(v5,()),(v6,()),(v7,()),(v8,()),seti (seti v9 v1 p2) (v1 - 1) p3,v10,v11,v12,())))
  (some (((),(),(),(),(v0,()),(),()),(v2,v3,v4,(),(v5,()),(v6,()),(v7,()),(v8,()),v9,v10,v11,v12,())))
abbrev R_DoOf_L48_A := ((Unit × Unit × Unit × Unit × Unit × Unit × Unit × (Int × Unit) × Unit) × (List (List Ad) × List Pf × List Ls × Unit × (Int × Unit) × (Oq × Unit) × (Int × Unit) × (Ad × Unit) × (Int × Unit) × (Bool × Int × Int × Int × Int × Unit) × List Ls × List Pf × List Ls × List (List Ad) × Unit))
abbrev R_DoOf_L48_B := Option ((Unit × Unit × Unit × Unit × Unit × Unit × Unit × Unit) × (List (List Ad) × List Pf × List Ls × Unit × (Int × Unit) × (Oq × Unit) × (Int × Unit) × (Ad × Unit) × (Int × Unit) × (Bool × Int × Int × Int × Int × Unit) × List Ls × List Pf × List Ls × List (List Ad) × Unit))
def zq121 (rec : R_DoOf_L48_A → R_DoOf_L48_B) (x : R_DoOf_L48_A) : R_DoOf_L48_B :=
 let v0 := x.1.2.2.2.2.2.2.2.1.1
 let v1 := x.2.1
 let v2 := x.2.2.1
 let v3 := x.2.2.2.1
 let v4 := x.2.2.2.2.2.1.1
 let v5 := x.2.2.2.2.2.2.1.1
 let v6 := x.2.2.2.2.2.2.2.1.1
 let v7 := x.2.2.2.2.2.2.2.2.1.1
 let zz := x.2.2.2.2.2.2.2.2.2
 let v8 := zz.1.1
 let v9 := zz.2.1.1
 let v10 := zz.2.1.2.1
 let v11 := zz.2.1.2.2.1
 let v12 := zz.2.1.2.2.2.1
 let v13 := zz.2.1.2.2.2.2.1
 let v14 := zz.2.2.1
 let v15 := zz.2.2.2.1
 let v16 := zz.2.2.2.2.1
 let v17 := zz.2.2.2.2.2.1
 br (decide (v0 < lenL v3))
  (req (zq908 v0 (lenL v3)) <|
  req (zq908 v0 (lenL v3)) <|
  (geti v3 v0).bind fun p1 =>
  (zq171 (⟨(⟨v9,v10,v11⟩ : Ad),v12⟩ : Pf) p1.ad).bind fun y2 =>
  br y2.1
   (req (zq908 v0 (lenL v3)) <|
   (geti v3 v0).bind fun p3 =>
   req (room (lenL v14) (lenL ([p3] : List Ls))) <|
   req (i64ok (v0 + 1)) <|
   rec (((),(),(),(),(),(),(),(v0 + 1,()),()),(v1,v2,v3,(),(v4,()),(v5,()),(v6,()),(v7,()),(v8,()),(v9,v10,v11,v12,v13,()),v14 ++ ([p3] : List Ls),v15,v16,v17,())))
   (req (i64ok (v0 + 1)) <|
   rec (((),(),(),(),(),(),(),(v0 + 1,()),()),(v1,v2,v3,(),(v4,()),(v5,()),(v6,()),(v7,()),(v8,()),(v9,v10,v11,v12,v13,()),v14,v15,v16,v17,()))))
  (some (((),(),(),(),(),(),(),()),(v1,v2,v3,(),(v4,()),(v5,()),(v6,()),(v7,()),(v8,()),(v9,v10,v11,v12,v13,()),v14,v15,v16,v17,())))
abbrev R_DoOf_L57_A := ((Unit × Unit × Unit × Unit × Unit × Unit × Unit × (Int × Unit) × Unit) × (List (List Ad) × List Pf × List Ls × Unit × (Int × Unit) × (Int × Unit) × (Ad × Unit) × (Int × Unit) × (Bool × Int × Int × Int × Int × Unit) × List Ls × (Ad × Unit) × List Pf × List Ls × List Ls × List (List Ad) × Unit))
abbrev R_DoOf_L57_B := Option ((Unit × Unit × Unit × Unit × Unit × Unit) × (List (List Ad) × List Pf × List Ls × Unit × (Int × Unit) × (Ad × Unit) × (Int × Unit) × List Ls × (Ad × Unit) × List Pf × List Ls × List Ls × List (List Ad) × Unit))
def zq124 (rec : R_DoOf_L57_A → R_DoOf_L57_B) (x : R_DoOf_L57_A) : R_DoOf_L57_B :=
 let v0 := x.1.2.2.2.2.2.2.2.1.1
 let v1 := x.2.1
 let v2 := x.2.2.1
 let v3 := x.2.2.2.1
 let v4 := x.2.2.2.2.2.1.1
 let v5 := x.2.2.2.2.2.2.1.1
 let v6 := x.2.2.2.2.2.2.2.1.1
 let v7 := x.2.2.2.2.2.2.2.2.1.1
 let zz := x.2.2.2.2.2.2.2.2.2
 let v8 := zz.1.1
 let v9 := zz.1.2.1
 let v10 := zz.1.2.2.1
 let v11 := zz.1.2.2.2.1
 let v12 := zz.1.2.2.2.2.1
 let v13 := zz.2.1
 let v14 := zz.2.2.1.1
 let v15 := zz.2.2.2.1
 let v16 := zz.2.2.2.2.1
 let v17 := zz.2.2.2.2.2.1
 let v18 := zz.2.2.2.2.2.2.1
 br (decide (v0 < lenL v3))
  (req (zq908 v0 (lenL v3)) <|
  req (zq908 v0 (lenL v3)) <|
  (geti v3 v0).bind fun p1 =>
  (zq171 (⟨(⟨v8,v9,v10⟩ : Ad),v11⟩ : Pf) p1.ad).bind fun y2 =>
  br (!y2.1)
   (req (zq908 v0 (lenL v3)) <|
   (geti v3 v0).bind fun p3 =>
   req (room (lenL v17) (lenL ([p3] : List Ls))) <|
   req (i64ok (v0 + 1)) <|
   rec (((),(),(),(),(),(),(),(v0 + 1,()),()),(v1,v2,v3,(),(v4,()),(v5,()),(v6,()),(v7,()),(v8,v9,v10,v11,v12,()),v13,(v14,()),v15,v16,v17 ++ ([p3] : List Ls),v18,())))
   (req (i64ok (v0 + 1)) <|
   rec (((),(),(),(),(),(),(),(v0 + 1,()),()),(v1,v2,v3,(),(v4,()),(v5,()),(v6,()),(v7,()),(v8,v9,v10,v11,v12,()),v13,(v14,()),v15,v16,v17,v18,()))))
  (some (((),(),(),(),(),()),(v1,v2,v3,(),(v5,()),(v6,()),(v7,()),v13,(v14,()),v15,v16,v17,v18,())))
abbrev R_DoOf_L66_A := ((Unit × Unit × Unit × Unit × Unit × (Int × Unit) × (Int × Unit) × Unit) × (List (List Ad) × List Pf × List Ls × Unit × (Int × Unit) × (Ad × Unit) × (Int × Unit) × List Ls × (Ad × Unit) × List Pf × List Ls × List Ls × List (List Ad) × Unit))
abbrev R_DoOf_L66_B := Option ((Unit × Unit × Unit × Unit × Unit × (Int × Unit) × Unit) × (List (List Ad) × List Pf × List Ls × Unit × (Int × Unit) × (Ad × Unit) × (Int × Unit) × List Ls × (Ad × Unit) × List Pf × List Ls × List Ls × List (List Ad) × Unit))
def zq130 (rec : R_DoOf_L66_A → R_DoOf_L66_B) (x : R_DoOf_L66_A) : R_DoOf_L66_B :=
 let v0 := x.1.2.2.2.2.2.1.1
 let v1 := x.1.2.2.2.2.2.2.1.1
 let v2 := x.2.1
 let v3 := x.2.2.1
 let v4 := x.2.2.2.1
 let v5 := x.2.2.2.2.2.1.1
 let v6 := x.2.2.2.2.2.2.1.1
 let zz := x.2.2.2.2.2.2.2
 let v7 := zz.1.1
 let v8 := zz.2.1
 let v9 := zz.2.2.1.1
 let v10 := zz.2.2.2.1
 let v11 := zz.2.2.2.2.1
 let v12 := zz.2.2.2.2.2.1
 let v13 := zz.2.2.2.2.2.2.1
 (br (decide (v1 > 0))
   (req (zq908 v1 (lenL v12)) <|
   req (zq908 v1 (lenL v12)) <|
   (geti v12 v1).bind fun p1 =>
   req (i64ok (v1 - 1)) <|
   req (zq908 (v1 - 1) (lenL v12)) <|
   req (zq908 (v1 - 1) (lenL v12)) <|
   (geti v12 (v1 - 1)).bind fun p2 =>
   (zq186 p1.ad p2.ad).bind fun y3 =>
   some y3.1)
   (some false)).bind fun c1 =>
 br c1
  (req (i64ok (v1 - 1)) <|
  req (i64ok (v1 - 1)) <|
  req (zq908 (v1 - 1) (lenL v12)) <|
  (geti v12 (v1 - 1)).bind fun p2 =>
  req (zq908 v1 (lenL v12)) <|
  (geti v12 v1).bind fun p3 =>
  req (zq908 v1 (lenL v12)) <|
  both
   (dup 1 <|
   (geti v12 v1).bind fun p4 =>
   req (zq908 (v1 - 1) (lenL (seti v12 v1 p2))) <|
   (geti (seti v12 v1 p2) (v1 - 1)).bind fun p5 =>
   req (i64ok (v1 - 1)) <|
   rec (((),(),(),(),(),(v0,()),(v1 - 1,()),()),(v2,v3,v4,(),(v5,()),(v6,()),(v7,()),v8,(v9,()),v10,v11,seti (seti v12 v1 p2) (v1 - 1) p3,v13,())))
   ((geti v12 v1).bind fun p4 =>
   req (zq908 (v1 - 1) (lenL (seti v12 v1 p2))) <|
   (geti (seti v12 v1 p2) (v1 - 1)).bind fun p5 =>
   req (i64ok (v1 - 1)) <|
   rec (((),(),(),(),(),(v0,()),(v1 - 1,()),()),(v2,v3,v4,(),(v5,()),(v6,()),(v7,()),v8,(v9,()),v10,v11,seti (seti v12 v1 p2) (v1 - 1) p3,v13,()))))
  (some (((),(),(),(),(),(v0,()),()),(v2,v3,v4,(),(v5,()),(v6,()),(v7,()),v8,(v9,()),v10,v11,v12,v13,())))
abbrev R_DoOf_L62_A := ((Unit × Unit × Unit × Unit × Unit × (Int × Unit) × Unit) × (List (List Ad) × List Pf × List Ls × Unit × (Int × Unit) × (Ad × Unit) × (Int × Unit) × List Ls × (Ad × Unit) × List Pf × List Ls × List Ls × List (List Ad) × Unit))
abbrev R_DoOf_L62_B := Option ((Unit × Unit × Unit × Unit × Unit) × (List (List Ad) × List Pf × List Ls × Unit × (Int × Unit) × (Ad × Unit) × (Int × Unit) × (Ad × Unit) × List Pf × List Ls × List Ls × List (List Ad) × Unit))
def zq127 (rec : R_DoOf_L62_A → R_DoOf_L62_B) (x : R_DoOf_L62_A) : R_DoOf_L62_B :=
 let v0 := x.1.2.2.2.2.2.1.1
 let v1 := x.2.1
 let v2 := x.2.2.1
 let v3 := x.2.2.2.1
 let v4 := x.2.2.2.2.2.1.1
 let v5 := x.2.2.2.2.2.2.1.1
 let zz := x.2.2.2.2.2.2.2
 let v6 := zz.1.1
 let v7 := zz.2.1
 let v8 := zz.2.2.1.1
 let v9 := zz.2.2.2.1
 let v10 := zz.2.2.2.2.1
 let v11 := zz.2.2.2.2.2.1
 let v12 := zz.2.2.2.2.2.2.1
 br (decide (v0 < lenL v7))
  (req (zq908 v0 (lenL v7)) <|
  (geti v7 v0).bind fun p1 =>
  req (room (lenL v11) (lenL ([p1] : List Ls))) <|
  req (i64ok ((lenL (v11 ++ ([p1] : List Ls))) - 1)) <|
  (loopN zq130 FUEL (((),(),(),(),(),(v0,()),((lenL (v11 ++ ([p1] : List Ls))) - 1,()),()),(v1,v2,v3,(),(v4,()),(v5,()),(v6,()),v7,(v8,()),v9,v10,v11 ++ ([p1] : List Ls),v12,()))).bind fun y2 =>
  req (i64ok (y2.1.2.2.2.2.2.1.1 + 1)) <|
  rec (((),(),(),(),(),(y2.1.2.2.2.2.2.1.1 + 1,()),()),(y2.2.1,y2.2.2.1,y2.2.2.2.1,(),(y2.2.2.2.2.2.1.1,()),(y2.2.2.2.2.2.2.1.1,()),(y2.2.2.2.2.2.2.2.1.1,()),y2.2.2.2.2.2.2.2.2.1,(y2.2.2.2.2.2.2.2.2.2.1.1,()),y2.2.2.2.2.2.2.2.2.2.2.1,y2.2.2.2.2.2.2.2.2.2.2.2.1,y2.2.2.2.2.2.2.2.2.2.2.2.2.1,y2.2.2.2.2.2.2.2.2.2.2.2.2.2.1,())))
  (some (((),(),(),(),()),(v1,v2,v3,(),(v4,()),(v5,()),(v6,()),(v8,()),v9,v10,v11,v12,())))
def zq138 (a0 : List Pf × List (List Ad)) (a1 : List Ls) (a2 : Int) (a3 : Oq) : Option (((List Pf × List (List Ad)) × (List Ls) × Int × Unit) × Ad × Int × Unit) :=
 (zq99 a3).bind fun y1 =>
 br (!decide (y1.1 = 0))
  (some (((([] : List Pf),([] : List (List Ad))),([] : List Ls),0,()),(⟨false,0,0⟩ : Ad),y1.1,()))
  (br (decide (a3.kind = 1))
   ((loopN zq115 FUEL (((()),(()),(()),(()),(()),(false,()),(0,()),()),(a0.2,a0.1,a1,(),(a2,()),(a3,()),(0,()),((⟨false,0,0⟩ : Ad),()),(a2,()),([] : List Pf),([] : List Ls),([] : List Pf),([] : List (List Ad)),([] : List (List Ad)),()))).bind fun y2 =>
   sumC y2 (fun y3 =>
    some (((y3.2.2.2.2.2.2.2.1,y3.2.2.2.2.2.2.2.2.2.1),y3.2.2.2.2.2.2.2.2.1,y3.2.2.2.2.2.1.1,()),y3.2.2.2.2.2.2.1.1,y3.1.2.2.1.1,())) (fun y4 =>
    br (!y4.1.2.2.2.2.1.1)
     (req (room (lenL y4.2.2.2.2.2.2.2.2.2.2.2.1) (lenL ([y4.2.2.2.2.2.1.1.pf] : List Pf))) <|
     br (decide (lenL (y4.2.2.2.2.2.2.2.2.2.2.2.1 ++ ([y4.2.2.2.2.2.1.1.pf] : List Pf)) > 3))
      (some (((([] : List Pf),([] : List (List Ad))),([] : List Ls),0,()),(⟨false,0,0⟩ : Ad),2,()))
      (some (((y4.2.2.2.2.2.2.2.2.2.2.2.1 ++ ([y4.2.2.2.2.2.1.1.pf] : List Pf),padL y4.2.2.2.2.2.2.2.2.2.2.2.1.length y4.2.2.2.2.2.2.2.2.2.2.2.2.2.1 ++ ([([] : List Ad)] : List (List Ad))),y4.2.2.2.1,y4.2.2.2.2.2.2.2.2.1.1,()),(⟨false,0,0⟩ : Ad),0,())))
     (br (decide (lenL y4.2.2.2.2.2.2.2.2.2.2.2.1 > 3))
      (some (((([] : List Pf),([] : List (List Ad))),([] : List Ls),0,()),(⟨false,0,0⟩ : Ad),2,()))
      (some (((y4.2.2.2.2.2.2.2.2.2.2.2.1,y4.2.2.2.2.2.2.2.2.2.2.2.2.2.1),y4.2.2.2.1,y4.2.2.2.2.2.2.2.2.1.1,()),(⟨false,0,0⟩ : Ad),0,())))))
   (br (decide (a3.kind = 2))
    ((zq223 a0 a1 a2 a3.ad).bind fun y2 =>
    br (decide (y2.1 < 0))
     (some (((([] : List Pf),([] : List (List Ad))),([] : List Ls),0,()),(⟨false,0,0⟩ : Ad),5,()))
     (req (zq908 y2.1 (lenL a0.1)) <|
     req (zq908 y2.1 (lenL a0.1)) <|
     (geti a0.1 y2.1).bind fun p3 =>
     (zq318 (getL a0.2 y2.1) a3.ad).bind fun y4 =>
     br y4.1
      (some (((([] : List Pf),([] : List (List Ad))),([] : List Ls),0,()),(⟨false,0,0⟩ : Ad),6,()))
      (req (zq908 y2.1 (lenL a0.1)) <|
      req (zq908 y2.1 (lenL a0.1)) <|
      (geti a0.1 y2.1).bind fun p5 =>
      br (decide (lenL (getL a0.2 y2.1) = 6))
       (some (((([] : List Pf),([] : List (List Ad))),([] : List Ls),0,()),(⟨false,0,0⟩ : Ad),2,()))
       (req (zq908 y2.1 (lenL a0.1)) <|
       req (zq908 y2.1 (lenL a0.1)) <|
       (geti a0.1 y2.1).bind fun p6 =>
       both
        (dup 1 <|
        req (room (lenL ([] : List Ad)) (lenL (getL a0.2 y2.1))) <|
        req (room (lenL (([] : List Ad) ++ (getL a0.2 y2.1))) (lenL ([a3.ad] : List Ad))) <|
        req (i64ok ((lenL ((([] : List Ad) ++ (getL a0.2 y2.1)) ++ ([a3.ad] : List Ad))) - 1)) <|
        (loopN zq118 FUEL (((()),(()),(()),(()),(y2.1,()),(()),((lenL ((([] : List Ad) ++ (getL a0.2 y2.1)) ++ ([a3.ad] : List Ad))) - 1,()),()),(a0.2,a0.1,a1,(),(a2,()),(0,()),((⟨false,0,0⟩ : Ad),()),(a2,()),(([] : List Ad) ++ (getL a0.2 y2.1)) ++ ([a3.ad] : List Ad),([] : List Pf),([] : List Ls),([] : List (List Ad)),()))).bind fun y7 =>
        req (room (lenL ([] : List Pf)) (lenL y7.2.2.1)) <|
        req (zq908 y7.1.2.2.2.2.1.1 (lenL (([] : List Pf) ++ y7.2.2.1))) <|
        req (zq908 y7.1.2.2.2.2.1.1 (lenL (([] : List Pf) ++ y7.2.2.1))) <|
        (geti (([] : List Pf) ++ y7.2.2.1) y7.1.2.2.2.2.1.1).bind fun p8 =>
        some (((seti (([] : List Pf) ++ y7.2.2.1) y7.1.2.2.2.2.1.1 p8,seti (padL (([] : List Pf) ++ y7.2.2.1).length (padL ([] : List Pf).length ([] : List (List Ad)) ++ y7.2.1)) y7.1.2.2.2.2.1.1 y7.2.2.2.2.2.2.2.2.2.1),y7.2.2.2.1,y7.2.2.2.2.2.2.2.2.1.1,()),(⟨false,0,0⟩ : Ad),0,()))
        (req (room (lenL ([] : List Ad)) (lenL (getL a0.2 y2.1))) <|
        req (room (lenL (([] : List Ad) ++ (getL a0.2 y2.1))) (lenL ([a3.ad] : List Ad))) <|
        req (i64ok ((lenL ((([] : List Ad) ++ (getL a0.2 y2.1)) ++ ([a3.ad] : List Ad))) - 1)) <|
        (loopN zq118 FUEL (((()),(()),(()),(()),(y2.1,()),(()),((lenL ((([] : List Ad) ++ (getL a0.2 y2.1)) ++ ([a3.ad] : List Ad))) - 1,()),()),(a0.2,a0.1,a1,(),(a2,()),(0,()),((⟨false,0,0⟩ : Ad),()),(a2,()),(([] : List Ad) ++ (getL a0.2 y2.1)) ++ ([a3.ad] : List Ad),([] : List Pf),([] : List Ls),([] : List (List Ad)),()))).bind fun y7 =>
        req (room (lenL ([] : List Pf)) (lenL y7.2.2.1)) <|
        req (zq908 y7.1.2.2.2.2.1.1 (lenL (([] : List Pf) ++ y7.2.2.1))) <|
        req (zq908 y7.1.2.2.2.2.1.1 (lenL (([] : List Pf) ++ y7.2.2.1))) <|
        (geti (([] : List Pf) ++ y7.2.2.1) y7.1.2.2.2.2.1.1).bind fun p8 =>
        some (((seti (([] : List Pf) ++ y7.2.2.1) y7.1.2.2.2.2.1.1 p8,seti (padL (([] : List Pf) ++ y7.2.2.1).length (padL ([] : List Pf).length ([] : List (List Ad)) ++ y7.2.1)) y7.1.2.2.2.2.1.1 y7.2.2.2.2.2.2.2.2.2.1),y7.2.2.2.1,y7.2.2.2.2.2.2.2.2.1.1,()),(⟨false,0,0⟩ : Ad),0,()))))))
    (br (decide (a3.kind = 3))
     (br (decide (a3.of_ ≥ lenL a0.1))
      (some (((([] : List Pf),([] : List (List Ad))),([] : List Ls),0,()),(⟨false,0,0⟩ : Ad),5,()))
      (req (zq908 a3.of_ (lenL a0.1)) <|
      (geti a0.1 a3.of_).bind fun p2 =>
      (zq297 a1 a3.who).bind fun y3 =>
      (br (decide (y3.1 ≥ 0))
        (req (zq908 y3.1 (lenL a1)) <|
        req (zq908 y3.1 (lenL a1)) <|
        (geti a1 y3.1).bind fun p4 =>
        (zq171 p2 p4.ad).bind fun y5 =>
        some (!y5.1))
        (some false)).bind fun c4 =>
      br c4
       (some (((([] : List Pf),([] : List (List Ad))),([] : List Ls),0,()),(⟨false,0,0⟩ : Ad),6,()))
       ((loopN zq121 FUEL (((()),(()),(()),(()),(()),(()),(()),(0,()),()),(a0.2,a0.1,a1,(),(a2,()),(a3,()),(0,()),((⟨false,0,0⟩ : Ad),()),(a2,()),(p2.ad.v6,p2.ad.hi,p2.ad.lo,p2.bits,a3.of_,()),([] : List Ls),([] : List Pf),([] : List Ls),([] : List (List Ad)),()))).bind fun y5 =>
       (zq165 (⟨(⟨y5.2.2.2.2.2.2.2.2.2.2.1.1,y5.2.2.2.2.2.2.2.2.2.2.1.2.1,y5.2.2.2.2.2.2.2.2.2.2.1.2.2.1⟩ : Ad),y5.2.2.2.2.2.2.2.2.2.2.1.2.2.2.1⟩ : Pf) (getL y5.2.1 y5.2.2.2.2.2.2.2.2.2.2.1.2.2.2.2.1) y5.2.2.2.2.2.2.2.2.2.2.2.1 y5.2.2.2.2.2.2.1.1.who y5.2.2.2.2.2.1.1 y5.2.2.2.2.2.2.1.1.n).bind fun y6 =>
       br (!y6.2.2.1)
        (some (((([] : List Pf),([] : List (List Ad))),([] : List Ls),0,()),(⟨false,0,0⟩ : Ad),8,()))
        ((loopN zq124 FUEL (((()),(()),(()),(()),(()),(()),(()),(0,()),()),(y5.2.1,y5.2.2.1,y5.2.2.2.1,(),(y5.2.2.2.2.2.1.1,()),(y5.2.2.2.2.2.2.2.1.1,()),(y5.2.2.2.2.2.2.2.2.1.1,()),(y5.2.2.2.2.2.2.2.2.2.1.1,()),(y5.2.2.2.2.2.2.2.2.2.2.1.1,y5.2.2.2.2.2.2.2.2.2.2.1.2.1,y5.2.2.2.2.2.2.2.2.2.2.1.2.2.1,y5.2.2.2.2.2.2.2.2.2.2.1.2.2.2.1,y5.2.2.2.2.2.2.2.2.2.2.1.2.2.2.2.1,()),y6.1,(y6.2.1,()),y5.2.2.2.2.2.2.2.2.2.2.2.2.1,y5.2.2.2.2.2.2.2.2.2.2.2.2.2.1,([] : List Ls),y5.2.2.2.2.2.2.2.2.2.2.2.2.2.2.1,()))).bind fun y7 =>
        (loopN zq127 FUEL (((()),(()),(()),(()),(()),(0,()),()),(y7.2.1,y7.2.2.1,y7.2.2.2.1,(),(y7.2.2.2.2.2.1.1,()),(y7.2.2.2.2.2.2.1.1,()),(y7.2.2.2.2.2.2.2.1.1,()),y7.2.2.2.2.2.2.2.2.1,(y7.2.2.2.2.2.2.2.2.2.1.1,()),y7.2.2.2.2.2.2.2.2.2.2.1,y7.2.2.2.2.2.2.2.2.2.2.2.1,y7.2.2.2.2.2.2.2.2.2.2.2.2.1,y7.2.2.2.2.2.2.2.2.2.2.2.2.2.1,()))).bind fun y8 =>
        br (decide (lenL y8.2.2.2.2.2.2.2.2.2.2.2.1 > 20))
         (some (((([] : List Pf),([] : List (List Ad))),([] : List Ls),0,()),(⟨false,0,0⟩ : Ad),2,()))
         (some (((y8.2.2.1,y8.2.1),y8.2.2.2.2.2.2.2.2.2.2.2.1,y8.2.2.2.2.2.2.2.1.1,()),y8.2.2.2.2.2.2.2.2.1.1,0,()))))))
     (br (decide (a3.kind = 4))
      ((zq297 a1 a3.who).bind fun y2 =>
      br (decide (y2.1 < 0))
       (some (((([] : List Pf),([] : List (List Ad))),([] : List Ls),0,()),(⟨false,0,0⟩ : Ad),5,()))
       (req (i64ok (y2.1 + 1)) <|
       both
        (both
         (req ((decide (0 ≤ y2.1)) && (decide (y2.1 ≤ lenL a1))) <|
         both
          (req (room (lenL ([] : List Ls)) (lenL (subL a1 0 y2.1))) <|
          req (((decide (0 ≤ y2.1 + 1)) && (decide (y2.1 + 1 ≤ lenL a1))) && (decide (lenL a1 ≤ lenL a1))) <|
          req (room (lenL (([] : List Ls) ++ (subL a1 0 y2.1))) (lenL (subL a1 (y2.1 + 1) (lenL a1)))) <|
          req (zq908 y2.1 (lenL a1)) <|
          req (zq908 y2.1 (lenL a1)) <|
          (geti a1 y2.1).bind fun p3 =>
          some ((a0,(([] : List Ls) ++ (subL a1 0 y2.1)) ++ (subL a1 (y2.1 + 1) (lenL a1)),a2,()),p3.ad,0,()))
          (req (((decide (0 ≤ y2.1 + 1)) && (decide (y2.1 + 1 ≤ lenL a1))) && (decide (lenL a1 ≤ lenL a1))) <|
          req (room (lenL ([] : List Ls)) (lenL (subL a1 0 y2.1))) <|
          req (room (lenL (([] : List Ls) ++ (subL a1 0 y2.1))) (lenL (subL a1 (y2.1 + 1) (lenL a1)))) <|
          req (zq908 y2.1 (lenL a1)) <|
          req (zq908 y2.1 (lenL a1)) <|
          (geti a1 y2.1).bind fun p3 =>
          some ((a0,(([] : List Ls) ++ (subL a1 0 y2.1)) ++ (subL a1 (y2.1 + 1) (lenL a1)),a2,()),p3.ad,0,())))
         (req (((decide (0 ≤ y2.1 + 1)) && (decide (y2.1 + 1 ≤ lenL a1))) && (decide (lenL a1 ≤ lenL a1))) <|
         req ((decide (0 ≤ y2.1)) && (decide (y2.1 ≤ lenL a1))) <|
         req (room (lenL ([] : List Ls)) (lenL (subL a1 0 y2.1))) <|
         req (room (lenL (([] : List Ls) ++ (subL a1 0 y2.1))) (lenL (subL a1 (y2.1 + 1) (lenL a1)))) <|
         req (zq908 y2.1 (lenL a1)) <|
         req (zq908 y2.1 (lenL a1)) <|
         (geti a1 y2.1).bind fun p3 =>
         some ((a0,(([] : List Ls) ++ (subL a1 0 y2.1)) ++ (subL a1 (y2.1 + 1) (lenL a1)),a2,()),p3.ad,0,())))
        (both
         (req ((decide (0 ≤ y2.1)) && (decide (y2.1 ≤ lenL a1))) <|
         both
          (both
           (req (room (lenL ([] : List Ls)) (lenL (subL a1 0 y2.1))) <|
           req (((decide (0 ≤ y2.1 + 1)) && (decide (y2.1 + 1 ≤ lenL a1))) && (decide (lenL a1 ≤ lenL a1))) <|
           req (room (lenL (([] : List Ls) ++ (subL a1 0 y2.1))) (lenL (subL a1 (y2.1 + 1) (lenL a1)))) <|
           req (zq908 y2.1 (lenL a1)) <|
           req (zq908 y2.1 (lenL a1)) <|
           (geti a1 y2.1).bind fun p3 =>
           some ((a0,(([] : List Ls) ++ (subL a1 0 y2.1)) ++ (subL a1 (y2.1 + 1) (lenL a1)),a2,()),p3.ad,0,()))
           (req (((decide (0 ≤ y2.1 + 1)) && (decide (y2.1 + 1 ≤ lenL a1))) && (decide (lenL a1 ≤ lenL a1))) <|
           req (room (lenL ([] : List Ls)) (lenL (subL a1 0 y2.1))) <|
           req (room (lenL (([] : List Ls) ++ (subL a1 0 y2.1))) (lenL (subL a1 (y2.1 + 1) (lenL a1)))) <|
           req (zq908 y2.1 (lenL a1)) <|
           req (zq908 y2.1 (lenL a1)) <|
           (geti a1 y2.1).bind fun p3 =>
           some ((a0,(([] : List Ls) ++ (subL a1 0 y2.1)) ++ (subL a1 (y2.1 + 1) (lenL a1)),a2,()),p3.ad,0,())))
          (req (((decide (0 ≤ y2.1 + 1)) && (decide (y2.1 + 1 ≤ lenL a1))) && (decide (lenL a1 ≤ lenL a1))) <|
          req (room (lenL ([] : List Ls)) (lenL (subL a1 0 y2.1))) <|
          req (room (lenL (([] : List Ls) ++ (subL a1 0 y2.1))) (lenL (subL a1 (y2.1 + 1) (lenL a1)))) <|
          req (zq908 y2.1 (lenL a1)) <|
          req (zq908 y2.1 (lenL a1)) <|
          (geti a1 y2.1).bind fun p3 =>
          some ((a0,(([] : List Ls) ++ (subL a1 0 y2.1)) ++ (subL a1 (y2.1 + 1) (lenL a1)),a2,()),p3.ad,0,())))
         (req (((decide (0 ≤ y2.1 + 1)) && (decide (y2.1 + 1 ≤ lenL a1))) && (decide (lenL a1 ≤ lenL a1))) <|
         dup 1 <|
         req ((decide (0 ≤ y2.1)) && (decide (y2.1 ≤ lenL a1))) <|
         req (room (lenL ([] : List Ls)) (lenL (subL a1 0 y2.1))) <|
         req (room (lenL (([] : List Ls) ++ (subL a1 0 y2.1))) (lenL (subL a1 (y2.1 + 1) (lenL a1)))) <|
         req (zq908 y2.1 (lenL a1)) <|
         req (zq908 y2.1 (lenL a1)) <|
         (geti a1 y2.1).bind fun p3 =>
         some ((a0,(([] : List Ls) ++ (subL a1 0 y2.1)) ++ (subL a1 (y2.1 + 1) (lenL a1)),a2,()),p3.ad,0,())))))
      (br (decide (a3.n < a2))
       (some (((([] : List Pf),([] : List (List Ad))),([] : List Ls),0,()),(⟨false,0,0⟩ : Ad),4,()))
       ((zq210 a1 a3.n).bind fun y2 =>
       some ((a0,y2.1,a3.n,()),(⟨false,0,0⟩ : Ad),0,())))))))
abbrev R_ReplayOf_L4_A := ((Unit × Unit × Unit × Unit × (Int × Unit) × Unit) × (List En × Unit × (Int × Unit) × (Int × Unit) × List Ad × List Pf × List Ls × List Pf × List Ls × List (List Ad) × List (List Ad) × Unit))
abbrev R_ReplayOf_L4_B := Option ((Unit × Unit × Unit × Unit) × (List En × Unit × (Int × Unit) × (Int × Unit) × List Ad × List Pf × List Ls × List Pf × List Ls × List (List Ad) × List (List Ad) × Unit))
def zq230 (rec : R_ReplayOf_L4_A → R_ReplayOf_L4_B) (x : R_ReplayOf_L4_A) : R_ReplayOf_L4_B :=
 let v0 := x.1.2.2.2.2.1.1
 let v1 := x.2.1
 let v2 := x.2.2.2.1.1
 let v3 := x.2.2.2.2.1.1
 let v4 := x.2.2.2.2.2.1
 let zz := x.2.2.2.2.2.2
 let v5 := zz.1
 let v6 := zz.2.1
 let v7 := zz.2.2.1
 let v8 := zz.2.2.2.1
 let v9 := zz.2.2.2.2.1
 let v10 := zz.2.2.2.2.2.1
 br (decide (v0 < lenL v1))
  (req (zq908 v0 (lenL v1)) <|
  req (zq908 v0 (lenL v1)) <|
  (geti v1 v0).bind fun p1 =>
  both
   ((zq138 (v7,v10) v8 v3 p1.op).bind fun y2 =>
   dup 1 <|
   br (decide (y2.2.2.1 = 0))
    (req (room (lenL v4) (lenL ([y2.2.1] : List Ad))) <|
    req (i64ok (v0 + 1)) <|
    rec (((),(),(),(),(v0 + 1,()),()),(v1,(),(v2,()),(y2.1.2.2.1,()),v4 ++ ([y2.2.1] : List Ad),v5,v6,y2.1.1.1,y2.1.2.1,v9,y2.1.1.2,())))
    (req (room (lenL v4) (lenL ([y2.2.1] : List Ad))) <|
    req (i64ok (v0 + 1)) <|
    rec (((),(),(),(),(v0 + 1,()),()),(v1,(),(v2,()),(v3,()),v4 ++ ([y2.2.1] : List Ad),v5,v6,v7,v8,v9,v10,()))))
   (both
    (dup 1 <|
    (zq138 (v7,v10) v8 v3 p1.op).bind fun y2 =>
    br (decide (y2.2.2.1 = 0))
     (req (room (lenL v4) (lenL ([y2.2.1] : List Ad))) <|
     req (i64ok (v0 + 1)) <|
     rec (((),(),(),(),(v0 + 1,()),()),(v1,(),(v2,()),(y2.1.2.2.1,()),v4 ++ ([y2.2.1] : List Ad),v5,v6,y2.1.1.1,y2.1.2.1,v9,y2.1.1.2,())))
     (req (room (lenL v4) (lenL ([y2.2.1] : List Ad))) <|
     req (i64ok (v0 + 1)) <|
     rec (((),(),(),(),(v0 + 1,()),()),(v1,(),(v2,()),(v3,()),v4 ++ ([y2.2.1] : List Ad),v5,v6,v7,v8,v9,v10,()))))
    (dup 1 <|
    (zq138 (v7,v10) v8 v3 p1.op).bind fun y2 =>
    br (decide (y2.2.2.1 = 0))
     (req (room (lenL v4) (lenL ([y2.2.1] : List Ad))) <|
     req (i64ok (v0 + 1)) <|
     rec (((),(),(),(),(v0 + 1,()),()),(v1,(),(v2,()),(y2.1.2.2.1,()),v4 ++ ([y2.2.1] : List Ad),v5,v6,y2.1.1.1,y2.1.2.1,v9,y2.1.1.2,())))
     (req (room (lenL v4) (lenL ([y2.2.1] : List Ad))) <|
     req (i64ok (v0 + 1)) <|
     rec (((),(),(),(),(v0 + 1,()),()),(v1,(),(v2,()),(v3,()),v4 ++ ([y2.2.1] : List Ad),v5,v6,v7,v8,v9,v10,()))))))
  (some (((),(),(),()),(v1,(),(v2,()),(v3,()),v4,v5,v6,v7,v8,v9,v10,())))
def zq238 (a0 : List En) : Option (((List Pf × List (List Ad)) × (List Ls) × Int × Unit) × (List Ad) × Unit) :=
 (loopN zq230 FUEL (((()),(()),(()),(()),(0,()),()),(a0,(),(0,()),(0,()),([] : List Ad),([] : List Pf),([] : List Ls),([] : List Pf),([] : List Ls),([] : List (List Ad)),([] : List (List Ad)),()))).bind fun y1 =>
 some (((y1.2.2.2.2.2.2.2.2.1,y1.2.2.2.2.2.2.2.2.2.2.2.1),y1.2.2.2.2.2.2.2.2.2.1,y1.2.2.2.2.1.1,()),y1.2.2.2.2.2.1,())
def zq996 : Option (Bool × Unit) :=
 zq1006.bind fun y1 =>
 (zq635 y1.1).bind fun y2 =>
 (zq641 y2.1.1 y2.1.2.1 y2.1.2.2.1 y2.1.2.2.2.1 y2.1.2.2.2.2.1 y2.1.2.2.2.2.2.1 2).bind fun y3 =>
 (br (!decide (y2.2.2.1 = 0))
   (some true)
   (some (!decide (y3.2.1 = 0)))).bind fun c4 =>
 (br c4
   (some true)
   (some (!decide (lenL y2.2.1 = 7)))).bind fun c5 =>
 br c5
  (some (false,()))
  (zq626.bind fun y6 =>
  (zq602 y6.1.1 y6.1.2.1 y6.1.2.2.1 y6.1.2.2.2.1 y6.1.2.2.2.2.1 y6.1.2.2.2.2.2.1).bind fun y7 =>
  br (!decide (y7.1 = 0))
   (some (false,()))
   ((zq602 y2.1.1 y2.1.2.1 y2.1.2.2.1 y2.1.2.2.2.1 y2.1.2.2.2.2.1 y2.1.2.2.2.2.2.1).bind fun y8 =>
   br (!decide (y8.1 = 0))
    (some (false,()))
    (req (zq908 3 (lenL y2.2.1)) <|
    (geti y2.2.1 3).bind fun p9 =>
    (br p9
      (req (zq908 4 (lenL y2.2.1)) <|
      (geti y2.2.1 4).bind fun p10 =>
      some (!p10))
      (some false)).bind fun c10 =>
    (br c10
      (req (zq908 6 (lenL y2.2.1)) <|
      (geti y2.2.1 6).bind fun p11 =>
      some p11)
      (some false)).bind fun c11 =>
    (br c11
      (some (decide (lenL y2.1.2.2.2.2.1 = 2)))
      (some false)).bind fun c12 =>
    (br c12
      (some (decide (y2.1.2.1 = 2)))
      (some false)).bind fun c13 =>
    (br c13
      (some (decide (lenL y3.1.1.1 = 1)))
      (some false)).bind fun c14 =>
    some (c14,()))))
def zq989 (a0 : Int) (a1 : Int) (a2 : Int) (a3 : Int) (a4 : List En) (a5 : List Int × List (List En)) (a6 : Ev) (a7 : Int) : Option (Bool × Unit) :=
 (zq621 a0 a1 a2 a3 a4 a5 a6).bind fun y1 =>
 (zq641 a0 a1 a2 a3 a4 a5 a7).bind fun y2 =>
 (zq69 a0 a1 a2 a3 a4 a5).bind fun y3 =>
 br (decide (y3.1 = 0))
  ((zq84 a0 a6).bind fun y4 =>
  (br (decide (y3.1 = 0))
    (br (decide (a7 < 1))
     (some true)
     (some (decide (a7 > 2))))
    (some false)).bind fun c5 =>
  br c5
   (br (decide (y4.1 = 0))
    ((zq150 a0 a1 a2 a3 a4 a5 a6).bind fun y6 =>
    zq996.bind fun y7 =>
    (br y7.1
      ((zq602 a0 a1 a2 a3 a4 a5).bind fun y8 =>
      some (decide (y8.1 = y3.1)))
      (some false)).bind fun c8 =>
    (br c8
      ((zq1001 y1.1.1 y1.1.2.1 y1.1.2.2.1 y1.1.2.2.2.1 y1.1.2.2.2.2.1 y1.1.2.2.2.2.2.1 y1.2.2.1 y4.1 y6.1.1 y6.1.2.1 y6.1.2.2.1 y6.1.2.2.2.1 y6.1.2.2.2.2.1 y6.1.2.2.2.2.2.1).bind fun y9 =>
      some y9.1)
      (some false)).bind fun c9 =>
    (br c9
      (some (beqB y1.2.1 y6.2.1))
      (some false)).bind fun c10 =>
    (br c10
      ((zq1022 y2.1.1 y2.1.2.1 y2.1.2.2.1 y2.2.1 3 (([] : List Pf),([] : List (List Ad))) ([] : List Ls) 0).bind fun y11 =>
      some y11.1)
      (some false)).bind fun c11 =>
    some (c11,()))
    (zq996.bind fun y6 =>
    (br y6.1
      ((zq602 a0 a1 a2 a3 a4 a5).bind fun y7 =>
      some (decide (y7.1 = y3.1)))
      (some false)).bind fun c7 =>
    (br c7
      ((zq1001 y1.1.1 y1.1.2.1 y1.1.2.2.1 y1.1.2.2.2.1 y1.1.2.2.2.2.1 y1.1.2.2.2.2.2.1 y1.2.2.1 y4.1 0 0 0 0 ([] : List En) (([] : List Int),([] : List (List En)))).bind fun y8 =>
      some y8.1)
      (some false)).bind fun c8 =>
    (br c8
      (some (beqB y1.2.1 false))
      (some false)).bind fun c9 =>
    (br c9
      ((zq1022 y2.1.1 y2.1.2.1 y2.1.2.2.1 y2.2.1 3 (([] : List Pf),([] : List (List Ad))) ([] : List Ls) 0).bind fun y10 =>
      some y10.1)
      (some false)).bind fun c10 =>
    some (c10,())))
   (br (decide (y4.1 = 0))
    ((zq150 a0 a1 a2 a3 a4 a5 a6).bind fun y6 =>
    br (decide (y3.1 = 0))
     (req (i64ok (a7 - 1)) <|
     req (zq908 (a7 - 1) (lenL a5.1)) <|
     req (zq908 (a7 - 1) (lenL a5.1)) <|
     (geti a5.1 (a7 - 1)).bind fun p7 =>
     (zq238 (getL a5.2 (a7 - 1))).bind fun y8 =>
     zq996.bind fun y9 =>
     (br y9.1
       ((zq602 a0 a1 a2 a3 a4 a5).bind fun y10 =>
       some (decide (y10.1 = y3.1)))
       (some false)).bind fun c10 =>
     (br c10
       ((zq1001 y1.1.1 y1.1.2.1 y1.1.2.2.1 y1.1.2.2.2.1 y1.1.2.2.2.2.1 y1.1.2.2.2.2.2.1 y1.2.2.1 y4.1 y6.1.1 y6.1.2.1 y6.1.2.2.1 y6.1.2.2.2.1 y6.1.2.2.2.2.1 y6.1.2.2.2.2.2.1).bind fun y11 =>
       some y11.1)
       (some false)).bind fun c11 =>
     (br c11
       (some (beqB y1.2.1 y6.2.1))
       (some false)).bind fun c12 =>
     (br c12
       ((zq1022 y2.1.1 y2.1.2.1 y2.1.2.2.1 y2.2.1 y3.1 y8.1.1 y8.1.2.1 y8.1.2.2.1).bind fun y13 =>
       some y13.1)
       (some false)).bind fun c13 =>
     some (c13,()))
     (zq996.bind fun y7 =>
     (br y7.1
       ((zq602 a0 a1 a2 a3 a4 a5).bind fun y8 =>
       some (decide (y8.1 = y3.1)))
       (some false)).bind fun c8 =>
     (br c8
       ((zq1001 y1.1.1 y1.1.2.1 y1.1.2.2.1 y1.1.2.2.2.1 y1.1.2.2.2.2.1 y1.1.2.2.2.2.2.1 y1.2.2.1 y4.1 y6.1.1 y6.1.2.1 y6.1.2.2.1 y6.1.2.2.2.1 y6.1.2.2.2.2.1 y6.1.2.2.2.2.2.1).bind fun y9 =>
       some y9.1)
       (some false)).bind fun c9 =>
     (br c9
       (some (beqB y1.2.1 y6.2.1))
       (some false)).bind fun c10 =>
     (br c10
       ((zq1022 y2.1.1 y2.1.2.1 y2.1.2.2.1 y2.2.1 y3.1 (([] : List Pf),([] : List (List Ad))) ([] : List Ls) 0).bind fun y11 =>
       some y11.1)
       (some false)).bind fun c11 =>
     some (c11,())))
    (br (decide (y3.1 = 0))
     (req (i64ok (a7 - 1)) <|
     req (zq908 (a7 - 1) (lenL a5.1)) <|
     req (zq908 (a7 - 1) (lenL a5.1)) <|
     (geti a5.1 (a7 - 1)).bind fun p6 =>
     (zq238 (getL a5.2 (a7 - 1))).bind fun y7 =>
     zq996.bind fun y8 =>
     (br y8.1
       ((zq602 a0 a1 a2 a3 a4 a5).bind fun y9 =>
       some (decide (y9.1 = y3.1)))
       (some false)).bind fun c9 =>
     (br c9
       ((zq1001 y1.1.1 y1.1.2.1 y1.1.2.2.1 y1.1.2.2.2.1 y1.1.2.2.2.2.1 y1.1.2.2.2.2.2.1 y1.2.2.1 y4.1 0 0 0 0 ([] : List En) (([] : List Int),([] : List (List En)))).bind fun y10 =>
       some y10.1)
       (some false)).bind fun c10 =>
     (br c10
       (some (beqB y1.2.1 false))
       (some false)).bind fun c11 =>
     (br c11
       ((zq1022 y2.1.1 y2.1.2.1 y2.1.2.2.1 y2.2.1 y3.1 y7.1.1 y7.1.2.1 y7.1.2.2.1).bind fun y12 =>
       some y12.1)
       (some false)).bind fun c12 =>
     some (c12,()))
     (zq996.bind fun y6 =>
     (br y6.1
       ((zq602 a0 a1 a2 a3 a4 a5).bind fun y7 =>
       some (decide (y7.1 = y3.1)))
       (some false)).bind fun c7 =>
     (br c7
       ((zq1001 y1.1.1 y1.1.2.1 y1.1.2.2.1 y1.1.2.2.2.1 y1.1.2.2.2.2.1 y1.1.2.2.2.2.2.1 y1.2.2.1 y4.1 0 0 0 0 ([] : List En) (([] : List Int),([] : List (List En)))).bind fun y8 =>
       some y8.1)
       (some false)).bind fun c8 =>
     (br c8
       (some (beqB y1.2.1 false))
       (some false)).bind fun c9 =>
     (br c9
       ((zq1022 y2.1.1 y2.1.2.1 y2.1.2.2.1 y2.2.1 y3.1 (([] : List Pf),([] : List (List Ad))) ([] : List Ls) 0).bind fun y10 =>
       some y10.1)
       (some false)).bind fun c10 =>
     some (c10,())))))
  ((br (decide (y3.1 = 0))
    (br (decide (a7 < 1))
     (some true)
     (some (decide (a7 > 2))))
    (some false)).bind fun c4 =>
  br c4
   (br (decide (y3.1 = 0))
    ((zq150 a0 a1 a2 a3 a4 a5 a6).bind fun y5 =>
    zq996.bind fun y6 =>
    (br y6.1
      ((zq602 a0 a1 a2 a3 a4 a5).bind fun y7 =>
      some (decide (y7.1 = y3.1)))
      (some false)).bind fun c7 =>
    (br c7
      ((zq1001 y1.1.1 y1.1.2.1 y1.1.2.2.1 y1.1.2.2.2.1 y1.1.2.2.2.2.1 y1.1.2.2.2.2.2.1 y1.2.2.1 y3.1 y5.1.1 y5.1.2.1 y5.1.2.2.1 y5.1.2.2.2.1 y5.1.2.2.2.2.1 y5.1.2.2.2.2.2.1).bind fun y8 =>
      some y8.1)
      (some false)).bind fun c8 =>
    (br c8
      (some (beqB y1.2.1 y5.2.1))
      (some false)).bind fun c9 =>
    (br c9
      ((zq1022 y2.1.1 y2.1.2.1 y2.1.2.2.1 y2.2.1 3 (([] : List Pf),([] : List (List Ad))) ([] : List Ls) 0).bind fun y10 =>
      some y10.1)
      (some false)).bind fun c10 =>
    some (c10,()))
    (zq996.bind fun y5 =>
    (br y5.1
      ((zq602 a0 a1 a2 a3 a4 a5).bind fun y6 =>
      some (decide (y6.1 = y3.1)))
      (some false)).bind fun c6 =>
    (br c6
      ((zq1001 y1.1.1 y1.1.2.1 y1.1.2.2.1 y1.1.2.2.2.1 y1.1.2.2.2.2.1 y1.1.2.2.2.2.2.1 y1.2.2.1 y3.1 0 0 0 0 ([] : List En) (([] : List Int),([] : List (List En)))).bind fun y7 =>
      some y7.1)
      (some false)).bind fun c7 =>
    (br c7
      (some (beqB y1.2.1 false))
      (some false)).bind fun c8 =>
    (br c8
      ((zq1022 y2.1.1 y2.1.2.1 y2.1.2.2.1 y2.2.1 3 (([] : List Pf),([] : List (List Ad))) ([] : List Ls) 0).bind fun y9 =>
      some y9.1)
      (some false)).bind fun c9 =>
    some (c9,())))
   (br (decide (y3.1 = 0))
    ((zq150 a0 a1 a2 a3 a4 a5 a6).bind fun y5 =>
    br (decide (y3.1 = 0))
     (req (i64ok (a7 - 1)) <|
     req (zq908 (a7 - 1) (lenL a5.1)) <|
     req (zq908 (a7 - 1) (lenL a5.1)) <|
     (geti a5.1 (a7 - 1)).bind fun p6 =>
     (zq238 (getL a5.2 (a7 - 1))).bind fun y7 =>
     zq996.bind fun y8 =>
     (br y8.1
       ((zq602 a0 a1 a2 a3 a4 a5).bind fun y9 =>
       some (decide (y9.1 = y3.1)))
       (some false)).bind fun c9 =>
     (br c9
       ((zq1001 y1.1.1 y1.1.2.1 y1.1.2.2.1 y1.1.2.2.2.1 y1.1.2.2.2.2.1 y1.1.2.2.2.2.2.1 y1.2.2.1 y3.1 y5.1.1 y5.1.2.1 y5.1.2.2.1 y5.1.2.2.2.1 y5.1.2.2.2.2.1 y5.1.2.2.2.2.2.1).bind fun y10 =>
       some y10.1)
       (some false)).bind fun c10 =>
     (br c10
       (some (beqB y1.2.1 y5.2.1))
       (some false)).bind fun c11 =>
     (br c11
       ((zq1022 y2.1.1 y2.1.2.1 y2.1.2.2.1 y2.2.1 y3.1 y7.1.1 y7.1.2.1 y7.1.2.2.1).bind fun y12 =>
       some y12.1)
       (some false)).bind fun c12 =>
     some (c12,()))
     (zq996.bind fun y6 =>
     (br y6.1
       ((zq602 a0 a1 a2 a3 a4 a5).bind fun y7 =>
       some (decide (y7.1 = y3.1)))
       (some false)).bind fun c7 =>
     (br c7
       ((zq1001 y1.1.1 y1.1.2.1 y1.1.2.2.1 y1.1.2.2.2.1 y1.1.2.2.2.2.1 y1.1.2.2.2.2.2.1 y1.2.2.1 y3.1 y5.1.1 y5.1.2.1 y5.1.2.2.1 y5.1.2.2.2.1 y5.1.2.2.2.2.1 y5.1.2.2.2.2.2.1).bind fun y8 =>
       some y8.1)
       (some false)).bind fun c8 =>
     (br c8
       (some (beqB y1.2.1 y5.2.1))
       (some false)).bind fun c9 =>
     (br c9
       ((zq1022 y2.1.1 y2.1.2.1 y2.1.2.2.1 y2.2.1 y3.1 (([] : List Pf),([] : List (List Ad))) ([] : List Ls) 0).bind fun y10 =>
       some y10.1)
       (some false)).bind fun c10 =>
     some (c10,())))
    (br (decide (y3.1 = 0))
     (req (i64ok (a7 - 1)) <|
     req (zq908 (a7 - 1) (lenL a5.1)) <|
     req (zq908 (a7 - 1) (lenL a5.1)) <|
     (geti a5.1 (a7 - 1)).bind fun p5 =>
     (zq238 (getL a5.2 (a7 - 1))).bind fun y6 =>
     zq996.bind fun y7 =>
     (br y7.1
       ((zq602 a0 a1 a2 a3 a4 a5).bind fun y8 =>
       some (decide (y8.1 = y3.1)))
       (some false)).bind fun c8 =>
     (br c8
       ((zq1001 y1.1.1 y1.1.2.1 y1.1.2.2.1 y1.1.2.2.2.1 y1.1.2.2.2.2.1 y1.1.2.2.2.2.2.1 y1.2.2.1 y3.1 0 0 0 0 ([] : List En) (([] : List Int),([] : List (List En)))).bind fun y9 =>
       some y9.1)
       (some false)).bind fun c9 =>
     (br c9
       (some (beqB y1.2.1 false))
       (some false)).bind fun c10 =>
     (br c10
       ((zq1022 y2.1.1 y2.1.2.1 y2.1.2.2.1 y2.2.1 y3.1 y6.1.1 y6.1.2.1 y6.1.2.2.1).bind fun y11 =>
       some y11.1)
       (some false)).bind fun c11 =>
     some (c11,()))
     (zq996.bind fun y5 =>
     (br y5.1
       ((zq602 a0 a1 a2 a3 a4 a5).bind fun y6 =>
       some (decide (y6.1 = y3.1)))
       (some false)).bind fun c6 =>
     (br c6
       ((zq1001 y1.1.1 y1.1.2.1 y1.1.2.2.1 y1.1.2.2.2.1 y1.1.2.2.2.2.1 y1.1.2.2.2.2.2.1 y1.2.2.1 y3.1 0 0 0 0 ([] : List En) (([] : List Int),([] : List (List En)))).bind fun y7 =>
       some y7.1)
       (some false)).bind fun c7 =>
     (br c7
       (some (beqB y1.2.1 false))
       (some false)).bind fun c8 =>
     (br c8
       ((zq1022 y2.1.1 y2.1.2.1 y2.1.2.2.1 y2.2.1 y3.1 (([] : List Pf),([] : List (List Ad))) ([] : List Ls) 0).bind fun y9 =>
       some y9.1)
       (some false)).bind fun c9 =>
     some (c9,())))))
end Go.Ma
namespace Go.Ma
open Go
theorem zq561 {x : Ls} (h : chkLs x = 0) : chkA x.ad = 0 ∧ whoOk x.who = true ∧ betw x.upto 0 10499 = true := by
 unfold chkLs at h
 split at h
 ·rename_i h1; exact absurd h h1
 split at h
 ·cases h
 split at h
 ·cases h
 ·rename_i h1 h2 h3
  exact ⟨zc50.1 h1,by simpa using h2,by simpa using h3⟩
theorem zq559 : ∀ {l : List Ls},zq558 l = 0 → ∀ x ∈ l,chkLs x = 0
 | [],_,x,hx => by cases hx
 | y :: r,h,x,hx => by
  unfold zq558 at h
  split at h
  ·rename_i h1; exact absurd h h1
  ·rename_i h1
   rcases zc28.1 hx with rfl | hx
   ·exact zc50.1 h1
   ·exact zq559 h x hx
theorem zq438 {l : List Ls} {now : Int} (h : allC l now = 0) : l.length ≤ 20 ∧ (∀ x ∈ l,chkLs x = 0) ∧ ascL l = true ∧ betw now 0 9999 = true := by
 have h0 := zq436 h
 unfold allC at h
 rw [if_neg (by omega)] at h
 split at h
 ·rename_i h1; exact absurd h h1
 split at h
 ·cases h
 split at h
 ·cases h
 ·rename_i h1 h2 h3
  exact ⟨h0,zq559 (zc50.1 h1),by simpa using h2,by simpa using h3⟩
theorem zq429 {a b : Ad} (ha : a.In) (hb : b.In) : zq425 a b = decide (ordA a b < 0) := by
 rw [zq431 ha hb]
 exact decide_eq_decide.2 (zq1348 ha hb).1.symm
def adIn (l : List Ad) : Prop := ∀ a ∈ l,a.In
def backB : Option Ad → Ad → Bool
 | some b,a => decide (ordA b a ≥ 0)
 | none,_ => false
def keptF (p : Pf) : Option Ad → List Ad → Int
 | _,[] => 0
 | prev,a :: r => if chkA a ≠ 0 then chkA a else if holds p a = false then 5 else if backB prev a = true then 4 else keptF p (some a) r
def zq568 (p : Pf) (kp : List Ad) : Int := if chkP p ≠ 0 then chkP p else if ¬ ((wid p.ad.v6 : Nat) : Int) - p.bits ≤ 4 ∨ kp.length > 6 then 2 else keptF p none kp
end Go.Ma
namespace Go.Ma
open Go
theorem zq906 (o : Option Nat) : decide (idxI o ≥ 0) = o.isSome := by
 cases o with
 | none => rfl
 | some k =>
  have : idxI (some k) ≥ 0 := by show (k : Int) ≥ 0; omega
  simp [this]
def ofF (p : Pf) : List Ls → List Ls → Int
 | _,[] => 0
 | bf,x :: r => if holds p x.ad = false then 5 else if bf.any (whoP x.who) = true then 6 else ofF p (bf ++ [x]) r
def chkOf (p : Pf) (kp : List Ad) (l : List Ls) (now : Int) : Int := if zq568 p kp ≠ 0 then zq568 p kp else if allC l now ≠ 0 then allC l now else ofF p [] l
theorem zq570 {p : Pf} {kp : List Ad} (h : zq568 p kp = 0) : chkP p = 0 ∧ ((wid p.ad.v6 : Nat) : Int) - p.bits ≤ 4 ∧ kp.length ≤ 6 := by
 unfold zq568 at h
 split at h
 ·rename_i h1; exact absurd h h1
 split at h
 ·cases h
 ·rename_i h1 h2
  simp only [not_or,zc50] at h2
  exact ⟨zc50.1 h1,h2.1,by omega⟩
theorem zq1808 {l : List Ls} {i : Nat} {x : Ls} (h : l[i]? = some x) : l.take (i + 1) = l.take i ++ [x] := by
 have hi := (zc1.1 h).1
 rw [zc26 hi,(zc1.1 h).2]
end Go.Ma
namespace Go.Ma
open Go
def zq861 (p : Pf) : Nat := wid p.ad.v6 - p.bits.toNat
def addrI (p : Pf) (i : Nat) : Ad := ofNum p.ad.v6 (p.ad.num + i)
theorem zq1229 {p : Pf} (hp : p.In) (cp : chkP p = 0) (hn : ((wid p.ad.v6 : Nat) : Int) - p.bits ≤ 4) : zq861 p ≤ 4 ∧ 2 ^ zq861 p ≤ 16 ∧ p.ad.num % 2 ^ zq861 p = 0 ∧ p.ad.num + 2 ^ zq861 p ≤ 2 ^ wid p.ad.v6 := by
 obtain ⟨b1,b2⟩ := zq566 cp
 have h1 : zq861 p ≤ 4 := by unfold zq861; omega
 have h2 : 2 ^ zq861 p ≤ 2 ^ 4 := Nat.pow_le_pow_right (by omega) h1
 have h3 : p.ad.num % 2 ^ zq861 p = 0 := (zq679 _ _).1 ((zq676 hp.1.wf p.bits).1 (zq567 cp))
 have h4 := zq1573 p.ad ⟨hp.1.wf,zq565 cp⟩
 refine ⟨h1,h2,h3,?_⟩
 have hk : zq861 p ≤ wid p.ad.v6 := by unfold zq861; omega
 have h5 : 2 ^ wid p.ad.v6 = 2 ^ zq861 p * 2 ^ (wid p.ad.v6 - zq861 p) := by rw [← Nat.pow_add]; congr 1; omega
 obtain ⟨m,hm⟩ := Nat.dvd_of_mod_eq_zero h3
 rw [hm,h5] at h4 ⊢
 have := Nat.lt_of_mul_lt_mul_left h4
 calc 2 ^ zq861 p * m + 2 ^ zq861 p = 2 ^ zq861 p * (m + 1) := by rw [Nat.mul_add,Nat.mul_one]
  _ ≤ _ := Nat.mul_le_mul_left _ this
theorem zq1849 (v : Bool) : 2 ^ wid v ≤ 340282366920938463463374607431768211456 := by cases v <;> decide
theorem zq1270 {v : Bool} {n : Nat} (h : n < 2 ^ wid v) : (ofNum v n).In := by
 have := zq1849 v
 unfold ofNum
 exact ⟨⟨by simp only; omega,by simp only; omega⟩,by simp only; omega,by simp only; omega⟩
theorem zq1269 {v : Bool} {n : Nat} (h : n < 2 ^ wid v) : chkA (ofNum v n) = 0 := by
 unfold chkA ofNum
 cases v
 ·rw [show wid false = 32 from rfl] at h
  rw [if_neg]
  simp only
  omega
 ·simp
theorem zq1335 (x k : Nat) (hx : x < 18446744073709551616) (hk : k ≤ 64) (hm : x % 2 ^ k = 0) : aop .or .u64 (x : Int) ((2 ^ k - 1 : Nat) : Int) = ((x + (2 ^ k - 1) : Nat) : Int) := by
 have hp := Nat.two_pow_pos k
 have hle : 2 ^ k ≤ 2 ^ 64 := Nat.pow_le_pow_right (by omega) hk
 obtain ⟨m,rfl⟩ := Nat.dvd_of_mod_eq_zero hm
 have hlt : 2 ^ k * m + 2 ^ k ≤ 18446744073709551616 := by
  have h5 : (18446744073709551616 : Nat) = 2 ^ k * 2 ^ (64 - k) := by rw [← Nat.pow_add]; rw [show k + (64 - k) = 64 by omega]
  rw [h5] at hx ⊢
  have := Nat.lt_of_mul_lt_mul_left hx
  calc 2 ^ k * m + 2 ^ k = 2 ^ k * (m + 1) := by rw [Nat.mul_add,Nat.mul_one]
   _ ≤ _ := Nat.mul_le_mul_left _ this
 have e1 : ∀ n : Nat,n < 18446744073709551616 → (BitVec.ofInt 64 (n : Int)).toNat = n := fun n hn => by
  rw [BitVec.toNat_ofInt]
  have : ((n : Int) % ((2 ^ 64 : Nat) : Int)) = (n : Int) := Int.emod_eq_of_lt (by omega) (by omega)
  rw [this]; rfl
 show IntKind.u64.wrap (((BitVec.ofInt 64 ((2 ^ k * m : Nat) : Int) ||| BitVec.ofInt 64 ((2 ^ k - 1 : Nat) : Int)).toNat : Nat) : Int) = _
 rw [BitVec.toNat_or,e1 _ (by omega),e1 _ (by omega),← Nat.two_pow_add_eq_or_of_lt (by omega),zq1853 (by omega) (by omega)]
theorem zq1430 {p : Pf} (hp : p.In) (cp : chkP p = 0) (hn : ((wid p.ad.v6 : Nat) : Int) - p.bits ≤ 4) : zq1432 p = some (addrI p (2 ^ zq861 p - 1),()) := by
 obtain ⟨b1,b2⟩ := zq566 cp
 obtain ⟨n1,n2,n3,n4⟩ := zq1229 hp cp hn
 have hpp := Nat.two_pow_pos (zq861 p)
 obtain ⟨⟨h1,h2⟩,h3,h4⟩ := hp.1
 unfold zq1432
 rw [zq1460 p.ad p.bits b1 b2,zq487,zq1198]
 show some _ = some _
 have k1 : wid p.ad.v6 - p.bits.toNat - 64 = 0 := by unfold zq861 at n1; omega
 have k2 : min (wid p.ad.v6 - p.bits.toNat) 64 = zq861 p := by unfold zq861 at n1 ⊢; omega
 rw [k1,k2]
 obtain ⟨hi,hhi⟩ := Int.eq_ofNat_of_zero_le h1
 obtain ⟨lo,hlo⟩ := Int.eq_ofNat_of_zero_le h3
 have hnum : p.ad.num = hi * 18446744073709551616 + lo := by unfold Ad.num; rw [hhi,hlo]; rfl
 have hlo2 : lo % 2 ^ zq861 p = 0 := by
  rw [hnum] at n3
  have h5 : (18446744073709551616 : Nat) = 2 ^ zq861 p * 2 ^ (64 - zq861 p) := by rw [← Nat.pow_add]; rw [show zq861 p + (64 - zq861 p) = 64 by omega]
  rw [h5,Nat.mul_left_comm] at n3
  rwa [Nat.mul_add_mod] at n3
 have o1 : aop .or .u64 p.ad.hi ((2 ^ 0 - 1 : Nat) : Int) = p.ad.hi := by
  rw [hhi,zq1335 hi 0 (by omega) (by omega) (Nat.mod_one _)]
  simp
 have o2 : aop .or .u64 p.ad.lo ((2 ^ zq861 p - 1 : Nat) : Int) = ((lo + (2 ^ zq861 p - 1) : Nat) : Int) := by
  rw [hlo,zq1335 lo (zq861 p) (by omega) (by omega) hlo2]
 simp only [o1,o2]
 have hlt : lo + 2 ^ zq861 p ≤ 18446744073709551616 := by
  have h5 : (18446744073709551616 : Nat) = 2 ^ zq861 p * 2 ^ (64 - zq861 p) := by rw [← Nat.pow_add]; rw [show zq861 p + (64 - zq861 p) = 64 by omega]
  obtain ⟨m,rfl⟩ := Nat.dvd_of_mod_eq_zero hlo2
  have hx : 2 ^ zq861 p * m < 2 ^ zq861 p * 2 ^ (64 - zq861 p) := by omega
  have := Nat.lt_of_mul_lt_mul_left hx
  rw [h5]
  calc 2 ^ zq861 p * m + 2 ^ zq861 p = 2 ^ zq861 p * (m + 1) := by rw [Nat.mul_add,Nat.mul_one]
   _ ≤ _ := Nat.mul_le_mul_left _ this
 unfold addrI ofNum
 rw [hnum,hhi]
 have q1 : (hi * 18446744073709551616 + lo + (2 ^ zq861 p - 1)) / 18446744073709551616 = hi := by omega
 have q2 : (hi * 18446744073709551616 + lo + (2 ^ zq861 p - 1)) % 18446744073709551616 = lo + (2 ^ zq861 p - 1) := by omega
 rw [q1,q2]
theorem zq401 {v : Bool} {n : Nat} (h : n + 1 < 2 ^ wid v) : zq403 (ofNum v n) = some (ofNum v (n + 1),true,()) := by
 unfold zq403
 simp only [zq513,zq730]
 have hadd : ∀ m : Nat,aop .add .u64 (m : Int) 1 = (((m + 1) % 18446744073709551616 : Nat) : Int) := fun m => by
  simp only [aop,zq1854]
  omega
 have hw := zq1849 v
 cases v
 ·rw [show wid false = 32 from rfl] at h
  have q1 : (n + 1) / 18446744073709551616 = 0 := by omega
  have q2 : n / 18446744073709551616 = 0 := by omega
  have q3 : (n % 18446744073709551616 + 1) % 18446744073709551616 = n + 1 := by omega
  have q4 : (n + 1) % 18446744073709551616 = n + 1 := by omega
  simp only [ofNum,hadd,zq515,zq487,q1,q2,q3,q4,zq513]
  rw [decide_eq_true (show (((n + 1 : Nat) : Int)) < 4294967296 by omega)]
 ·rw [show wid true = 128 from rfl] at h
  simp only [ofNum,hadd,zq517,zq487]
  by_cases hc : n % 18446744073709551616 + 1 = 18446744073709551616
  ·have q1 : (n + 1) / 18446744073709551616 = n / 18446744073709551616 + 1 := by omega
   have q2 : (n + 1) % 18446744073709551616 = 0 := by omega
   have q3 : (n / 18446744073709551616 + 1) % 18446744073709551616 = n / 18446744073709551616 + 1 := by omega
   rw [hc,Nat.mod_self,decide_eq_true (show ((0 : Nat) : Int) = 0 from rfl),zq517,q1,q2,q3]
   rw [decide_eq_false (show ¬ (((n / 18446744073709551616 + 1 : Nat) : Int)) = 0 by omega)]
   rfl
  ·have q1 : (n + 1) / 18446744073709551616 = n / 18446744073709551616 := by omega
   have q2 : (n + 1) % 18446744073709551616 = n % 18446744073709551616 + 1 := by omega
   have q3 : (n % 18446744073709551616 + 1) % 18446744073709551616 = n % 18446744073709551616 + 1 := by omega
   rw [q3,decide_eq_false (show ¬ (((n % 18446744073709551616 + 1 : Nat) : Int)) = 0 by omega),zq515,q1,q2]
theorem zq1271 {v : Bool} {n m : Nat} (h : n ≠ m) : ofNum v n ≠ ofNum v m := fun e => h (by have := congrArg Ad.num e; rwa [zq1262,zq1262] at this)
theorem zq432 (v : Bool) (base c : Nat) (h : base + c ≤ 2 ^ wid v) : ∀ (fuel d : Nat),d < fuel → d < c → allA (ofNum v (base + (c - 1))) fuel (ofNum v (base + (c - 1 - d))) = some ((List.range' (c - 1 - d) (d + 1)).map fun i => ofNum v (base + i))
 | 0,d,h,_ => by omega
 | fuel + 1,d,h1,h2 => by
  rw [allA]
  cases d with
  | zero =>
   rw [decide_eq_true (show ofNum v (base + (c - 1 - 0)) = ofNum v (base + (c - 1)) from rfl),zq517]
   rfl
  | succ d =>
   rw [decide_eq_false (zq1271 (by omega)),zq515,zq401 (by omega),zq487,zq517,show base + (c - 1 - (d + 1)) + 1 = base + (c - 1 - d) by omega,zq432 v base c h fuel d (by omega) (by omega)]
   have hr : List.range' (c - 1 - (d + 1)) (d + 1 + 1) = (c - 1 - (d + 1)) :: List.range' (c - 1 - d) (d + 1) := by
    rw [List.range'_succ]
    congr 2
    omega
   rw [Option.map_some,hr,List.map_cons]
def zq1812 (kp : List Ad) (b : List Ls) (a : Ad) : Bool := kp.any (fun x => decide (a = x)) || b.any (fun x => decide (x.ad = a))
def ixOut (kp : List Ad) : Option Nat → (((Int × Unit) × Unit) × (List Ad × Unit)) ⊕ ((Unit) × (List Ad × Unit))
 | some k => Sum.inl ((((k : Int),()),()),(kp,()))
 | none => Sum.inr ((),(kp,()))
theorem zq1659 {kp : List Ad} (hlen : kp.length ≤ 1048576) (a : Ad) : zq1658 kp a = some (kp.any (fun x => decide (a = x)),()) := by
 unfold zq1658 zq1669
 have := zq1179 (step := zq1662) (fun i => (((),(),(lenL kp,()),((i : Int),()),()),(kp,(a,()),()))) kp.length (fun i => some (ixOut kp ((zq816 (fun x => decide (a = x)) (kp.drop i)).map (· + i)))) (fun rec i hi hr => ?_) (fun rec => ?_) FUEL 0 (Nat.zero_le _) (zq865 (by omega))
 ·rw [List.drop_zero,show (fun x => x + 0) = (id : Nat → Nat) from rfl,Option.map_id] at this
  rw [show ((0 : Nat) : Int) = 0 from rfl] at this
  rw [this,zq487,← zq817]
  simp only [id]
  cases zq816 (fun x => decide (a = x)) kp with
  | none => rfl
  | some k =>
   simp only [ixOut,sumC,zq487]
   rw [decide_eq_true (show (k : Int) ≥ 0 by omega)]
   rfl
 ·obtain ⟨e,he⟩ : ∃ e,kp[i]? = some e := ⟨_,zc0 hi⟩
  simp only [zq1662]
  rw [decide_eq_true (show (i : Int) < lenL kp by unfold lenL; omega),zq517,zq1560 (zq910 (by omega) (by unfold lenL; omega)),zq871 he,zq487,zq818 he,zq748]
  by_cases hc : a = e
  ·simp only [hc,decide_true,zq517,if_true]
   rfl
  ·simp only [hc,decide_false,zq515]
   rw [show ((i : Int) + 1) = ((i + 1 : Nat) : Int) by omega,zq1560 (zq904 (by omega) (by omega)),hr]
   rfl
 ·simp only [zq1662]
  rw [decide_eq_false (show ¬ (kp.length : Int) < lenL kp by unfold lenL; omega),zq515,zc18 (zc47 _)]
  rfl
abbrev DT := (Bool × Int × Int × Int × Unit) × List Ad × List Ls × (Ad × Unit) × Unit
def tkOut (d : DT) : Option Nat → (((Int × Unit) × Unit) × DT) ⊕ ((Unit) × DT)
 | some k => Sum.inl ((((k : Int),()),()),d)
 | none => Sum.inr ((),d)
theorem zq1813 (p : Pf) {kp : List Ad} (hk : kp.length ≤ 1048576) {b : List Ls} (hb : b.length ≤ 1048576) (a : Ad) : zq351 p kp b a = some (zq1812 kp b a,()) := by
 unfold zq351 zq1812
 rw [zq1659 hk,zq487]
 have := zq1179 (step := zq345) (fun i => (((),(),(lenL b,()),((i : Int),()),()),((p.ad.v6,p.ad.hi,p.ad.lo,p.bits,()),kp,b,(a,()),()))) b.length (fun i => some (tkOut ((p.ad.v6,p.ad.hi,p.ad.lo,p.bits,()),kp,b,(a,()),()) ((zq816 (fun x => decide (x.ad = a)) (b.drop i)).map (· + i)))) (fun rec i hi hr => ?_) (fun rec => ?_) FUEL 0 (Nat.zero_le _) (zq865 (by omega))
 ·rw [List.drop_zero,show (fun x => x + 0) = (id : Nat → Nat) from rfl,Option.map_id] at this
  rw [show ((0 : Nat) : Int) = 0 from rfl] at this
  rw [this,zq487,← zq817 b]
  simp only [id]
  cases kp.any (fun x => decide (a = x))
  ·rw [zq515]
   cases zq816 (fun x => decide (x.ad = a)) b with
   | none => rfl
   | some k =>
    simp only [tkOut,sumC,zq487]
    rw [decide_eq_true (show (k : Int) ≥ 0 by omega)]
    rfl
  ·rfl
 ·obtain ⟨e,he⟩ : ∃ e,b[i]? = some e := ⟨_,zc0 hi⟩
  simp only [zq345]
  rw [decide_eq_true (show (i : Int) < lenL b by unfold lenL; omega),zq517,zq1560 (zq910 (by omega) (by unfold lenL; omega)),zq871 he,zq487,zq818 he,zq337,zq487,zq748]
  by_cases hc : e.ad = a
  ·simp only [hc,decide_true,zq517,if_true]
   rfl
  ·simp only [hc,decide_false,zq515]
   rw [show ((i : Int) + 1) = ((i + 1 : Nat) : Int) by omega,zq1560 (zq904 (by omega) (by omega)),hr]
   rfl
 ·simp only [zq345]
  rw [decide_eq_false (show ¬ (b.length : Int) < lenL b by unfold lenL; omega),zq515,zc18 (zc47 _)]
  rfl
def zq860 : Option Ad → Ad × Bool × Unit
 | some a => (a,true,())
 | none => (⟨false,0,0⟩,false,())
def zq862 (p : Pf) (kp : List Ad) (b : List Ls) : Option Ad := ((List.range (2 ^ zq861 p)).map (addrI p)).find? fun a => !zq1812 kp b a
theorem zq823 (p : Pf) {kp : List Ad} (hk : kp.length ≤ 1048576) {b : List Ls} (hb : b.length ≤ 1048576) : ∀ xs : List Ad,zq822 p kp b xs = some (zq860 (xs.find? fun a => !zq1812 kp b a))
 | [] => rfl
 | a :: r => by
  rw [zq822,zq1813 p hk hb,zq487,zq823 p hk hb r,zq487,List.find?_cons]
  cases zq1812 kp b a <;> rfl
theorem zq825 {p : Pf} (hp : p.In) (cp : chkP p = 0) (hn : ((wid p.ad.v6 : Nat) : Int) - p.bits ≤ 4) {kp : List Ad} (hk : kp.length ≤ 1048576) {b : List Ls} (hb : b.length ≤ 1048576) :
  zq332 p kp b = some (zq860 (zq862 p kp b)) := by
 obtain ⟨n1,n2,n3,n4⟩ := zq1229 hp cp hn
 have hpp := Nat.two_pow_pos (zq861 p)
 unfold zq332 zq862
 rw [zq1430 hp cp hn,zq487]
 have := zq432 p.ad.v6 p.ad.num (2 ^ zq861 p) n4 64 (2 ^ zq861 p - 1) (by omega) (by omega)
 rw [show 2 ^ zq861 p - 1 - (2 ^ zq861 p - 1) = 0 by omega,Nat.add_zero,zq1272 _ hp.1.wf,show 2 ^ zq861 p - 1 + 1 = 2 ^ zq861 p by omega,← List.range_eq_range'] at this
 show (allA (ofNum p.ad.v6 (p.ad.num + (2 ^ zq861 p - 1))) 64 p.ad).bind _ = _
 rw [this,zq487,zq823 p hk hb]
 rfl
end Go.Ma
namespace Go.Ma
open Go
theorem zq460 : ∀ {r : List Ls} {c : Ad},c.In → lsIn r → ascF c r = true → ∀ z ∈ r,rank c < rank z.ad
 | [],_,_,_,_,z,hz => by cases hz
 | y :: r,c,hc,hr,h,z,hz => by
  unfold ascF at h
  simp only [zc4,decide_eq_true_eq] at h
  have hy := hr y (by simp)
  have h1 := (zq1348 hc hy.1).1.1 h.1
  rcases zc28.1 hz with rfl | hz
  ·exact h1
  ·have := zq460 hy.1 (fun x hx => hr x (by simp [hx])) h.2 z hz
   omega
theorem zq464 : ∀ {l : List Ls},lsIn l → (ascL l = true ↔ l.Pairwise fun x y => rank x.ad < rank y.ad)
 | [],_ => by simp [ascL]
 | x :: r,h => by
  have hx := h x (by simp)
  have hr : lsIn r := fun y hy => h y (by simp [hy])
  rw [zc45,← zq464 hr]
  constructor
  ·intro h1
   have h1 : ascF x.ad r = true := h1
   refine ⟨zq460 hx.1 hr h1,?_⟩
   cases r with
   | nil => rfl
   | cons y r =>
    unfold ascF at h1
    simp only [zc4] at h1
    exact h1.2
  ·rintro ⟨h1,h2⟩
   show ascF x.ad r = true
   cases r with
   | nil => rfl
   | cons y r =>
    unfold ascF
    simp only [zc4,decide_eq_true_eq]
    exact ⟨(zq1348 hx.1 (hr y (by simp)).1).1.2 (h1 y (by simp)),h2⟩
theorem zq1117 {l : List Ls} (h : lsIn l) (now : Int) : lsIn (live l now) := fun x hx => h x (List.mem_filter.1 hx).1
theorem zq1116 {l : List Ls} (h : lsIn l) (ha : ascL l = true) (now : Int) : ascL (live l now) = true := (zq464 (zq1117 h now)).2 (((zq464 h).1 ha).filter _)
def posF (a : Ad) (b : List Ls) : Nat := (b.takeWhile fun y => decide (ordA y.ad a < 0)).length
theorem zq1399 (a : Ad) (b : List Ls) : posF a b ≤ b.length := (List.takeWhile_sublist _).length_le
theorem zq1402 {a : Ad} (ha : a.In) : ∀ {b : List Ls},lsIn b → ascL b = true → ∀ {h : Nat} {x : Ls},b[h]? = some x → (ordA x.ad a < 0 ↔ h < posF a b)
 | [],_,_,_,_,hx => by simp at hx
 | y :: r,hb,hs,h,x,hx => by
  have hy := hb y (by simp)
  have hr : lsIn r := fun z hz => hb z (by simp [hz])
  have hrs : ascL r = true := (zq464 hr).2 (zc45.1 ((zq464 hb).1 hs)).2
  have hyr := (zc45.1 ((zq464 hb).1 hs)).1
  unfold posF
  rw [List.takeWhile_cons]
  by_cases ho : ordA y.ad a < 0
  ·simp only [ho,decide_true,if_true,zc21]
   cases h with
   | zero =>
    simp only [zc13,zc2] at hx
    subst hx
    simp [ho]
   | succ h =>
    have := zq1402 ha hr hrs (h := h) (x := x) (by simpa using hx)
    unfold posF at this
    omega
  ·simp only [ho,decide_false,zc16,if_false,zc32]
   cases h with
   | zero =>
    simp only [zc13,zc2] at hx
    subst hx
    simp [ho]
   | succ h =>
    have hx' : r[h]? = some x := by simpa using hx
    have hm := zc5 hx'
    have h1 := hyr x hm
    have h2 := (zq1348 hy.1 ha).1
    have h3 := (zq1348 (hr x hm).1 ha).1
    constructor
    ·intro h4
     have := h3.1 h4
     have : ¬ rank y.ad < rank a := fun h => ho (h2.2 h)
     omega
    ·intro h4; omega
theorem zq893 (i j : Nat) (h : i + j < 9223372036854775808) : convI .i64 (aop .shr .u64 (convI .u64 ((i : Int) + (j : Int))) 1) = (((i + j) / 2 : Nat) : Int) := by
 unfold convI
 rw [zq1853 (by omega) (by omega)]
 have e1 : aop .shr .u64 ((i : Int) + (j : Int)) 1 = (((i + j) / 2 : Nat) : Int) := by
  simp only [aop,IntKind.bits]
  rw [show ((2 : Int) ^ (min ((1 : Int).toNat) 64)) = 2 from rfl,Int.fdiv_eq_ediv_of_nonneg _ (by omega)]
  omega
 rw [e1]
 exact wrap_i64 (by omega) (by omega)
abbrev DR := List Ad × List Ls × (Bool × Int × Int × Int × Unit) × (ByteArray × Unit) × List Ls × (Ad × Unit) × List Ls × (Bool × Int × Int × Int × Unit) × (Ad × Unit) × (Ls × Unit) × (Ls × Unit) × Unit
theorem zq518 {kp : List Ad} {l b g : List Ls} (q q' : Bool × Int × Int × Int × Unit) (who : ByteArray) (ga a0 : Ad) (x x2 : Ls) (hx : x2.ad.In) (hb : lsIn b) (hs : ascL b = true) (hlen : b.length ≤ 1048576) (n : Int) :
  ∀ (N i j : Nat),j - i < N → i ≤ posF x2.ad b → posF x2.ad b ≤ j → j ≤ b.length →
   loopN zq1078 N (((),(),(),(n,()),((i : Int),()),((j : Int),()),()),((kp,l,q,(who,()),g,(ga,()),b,q',(a0,()),(x,()),(x2,()),()) : DR)) =
    some (((),(),(),(n,()),(((posF x2.ad b : Nat) : Int),()),()),(kp,l,q,(who,()),g,(ga,()),b,q',(a0,()),(x,()),(x2,()),()))
 | 0,_,_,h,_,_,_ => by omega
 | N + 1,i,j,hN,h1,h2,h3 => by
  rw [zq1176]
  simp only [zq1078]
  obtain ⟨q1,q2,q3,q4,_⟩ := q
  obtain ⟨r1,r2,r3,r4,_⟩ := q'
  by_cases hij : i < j
  ·have hh : (i + j) / 2 < b.length := by omega
   obtain ⟨e,he⟩ : ∃ e,b[(i + j) / 2]? = some e := ⟨_,zc0 hh⟩
   have hp := zq1402 hx hb hs he
   rw [decide_eq_true (show (i : Int) < (j : Int) by omega),zq517,zq1560 (zq904 (by omega) (by omega))]
   simp only [zq893 i j (by omega)]
   rw [zq1560 (zq910 (by omega) (by unfold lenL; omega)),zq871 he,zq487,zq1071,zq418,zq487,zq487]
   by_cases ho : ordA e.ad x2.ad < 0
   ·have := hp.1 ho
    simp only [ho,decide_true,zq517]
    rw [show (((i + j) / 2 : Nat) : Int) + 1 = (((i + j) / 2 + 1 : Nat) : Int) by omega,zq1560 (zq904 (by omega) (by omega))]
    exact zq518 _ _ who ga a0 x x2 hx hb hs hlen n N ((i + j) / 2 + 1) j (by omega) (by omega) h2 h3
   ·have : ¬ (i + j) / 2 < posF x2.ad b := fun h => ho (hp.2 h)
    simp only [ho,decide_false,zq515]
    exact zq518 _ _ who ga a0 x x2 hx hb hs hlen n N i ((i + j) / 2) (by omega) h1 (by omega) (by omega)
  ·have : posF x2.ad b = i := by omega
   rw [decide_eq_false (show ¬ (i : Int) < (j : Int) by omega),zq515,this]
theorem zq519 : zq1077 = zq1078 := rfl
abbrev DW := List Ad × List Ls × (Bool × Int × Int × Int × Unit) × (ByteArray × Unit) × List Ls × (Ad × Unit) × List Ls × (Bool × Int × Int × Int × Unit) × Unit
def rwOut (d : DW) : Option Nat → (((Int × Unit) × Unit) × DW) ⊕ ((Unit) × DW)
 | some k => Sum.inl ((((k : Int),()),()),d)
 | none => Sum.inr ((),d)
theorem zq1597 (p : Pf) (kp : List Ad) (l : List Ls) {b : List Ls} (hlen : b.length ≤ 1048576) (who : ByteArray) :
  loopN zq1084 FUEL (((),(),(lenL b,()),(0,()),()),(kp,l,(p.ad.v6,p.ad.hi,p.ad.lo,p.bits,()),(who,()),([] : List Ls),((⟨false,0,0⟩ : Ad),()),b,(p.ad.v6,p.ad.hi,p.ad.lo,p.bits,()),())) =
   some (rwOut (kp,l,(p.ad.v6,p.ad.hi,p.ad.lo,p.bits,()),(who,()),([] : List Ls),((⟨false,0,0⟩ : Ad),()),b,(p.ad.v6,p.ad.hi,p.ad.lo,p.bits,()),()) (zq816 (whoP who) b)) := by
 have := zq1179 (step := zq1084) (fun i => (((),(),(lenL b,()),((i : Int),()),()),((kp,l,(p.ad.v6,p.ad.hi,p.ad.lo,p.bits,()),(who,()),([] : List Ls),((⟨false,0,0⟩ : Ad),()),b,(p.ad.v6,p.ad.hi,p.ad.lo,p.bits,()),()) : DW))) b.length
  (fun i => some (rwOut (kp,l,(p.ad.v6,p.ad.hi,p.ad.lo,p.bits,()),(who,()),([] : List Ls),((⟨false,0,0⟩ : Ad),()),b,(p.ad.v6,p.ad.hi,p.ad.lo,p.bits,()),()) ((zq816 (whoP who) (b.drop i)).map (· + i)))) (fun rec i hi hr => ?_) (fun rec => ?_) FUEL 0 (Nat.zero_le _) (zq865 (by omega))
 ·rw [List.drop_zero,show (fun x => x + 0) = (id : Nat → Nat) from rfl,Option.map_id] at this
  exact this
 ·obtain ⟨e,he⟩ : ∃ e,b[i]? = some e := ⟨_,zc0 hi⟩
  simp only [zq1084]
  rw [decide_eq_true (show (i : Int) < lenL b by unfold lenL; omega),zq517,zq1560 (zq910 (by omega) (by unfold lenL; omega)),zq871 he,zq487,zq1066,zq487,zq818 he,zq1795]
  unfold whoP
  by_cases hc : e.who = who
  ·simp only [hc,decide_true,zq517,if_true]
   rfl
  ·simp only [hc,decide_false,zq515]
   rw [show ((i : Int) + 1) = ((i + 1 : Nat) : Int) by omega,zq1560 (zq904 (by omega) (by omega)),hr]
   rfl
 ·simp only [zq1084]
  rw [decide_eq_false (show ¬ (b.length : Int) < lenL b by unfold lenL; omega),zq515,zc18 (zc47 _)]
  rfl
def insAt (b : List Ls) (x : Ls) : List Ls := b.take (posF x.ad b) ++ x :: b.drop (posF x.ad b)
def zq968 (b : List Ls) (k : Nat) (u : Int) : List Ls × Ad × Bool × Unit := match b[k]? with | some e => (b.set k ⟨e.ad,e.who,u⟩,e.ad,true,()) | none => ([],⟨false,0,0⟩,false,())
def zq1471 (b : List Ls) (who : ByteArray) (u : Int) : Option Ad → List Ls × Ad × Bool × Unit
 | some a => (insAt b ⟨a,who,u⟩,a,true,())
 | none => ([],⟨false,0,0⟩,false,())
def rawOf (p : Pf) (kp : List Ad) (b : List Ls) (who : ByteArray) (u : Int) : List Ls × Ad × Bool × Unit :=
 match zq816 (whoP who) b with
 | some k => zq968 b k u
 | none => zq1471 b who u (zq862 p kp b)
theorem zq397 {p : Pf} (n4 : p.ad.num + 2 ^ zq861 p ≤ 2 ^ wid p.ad.v6) {i : Nat} (h : i < 2 ^ zq861 p) : (addrI p i).In ∧ chkA (addrI p i) = 0 := ⟨zq1270 (by omega),zq1269 (by omega)⟩
theorem zq863 {p : Pf} {kp : List Ad} {b : List Ls} {a : Ad} (h : zq862 p kp b = some a) : (∃ i,i < 2 ^ zq861 p ∧ a = addrI p i) ∧ zq1812 kp b a = false := by
 unfold zq862 at h
 have h1 := List.mem_of_find?_eq_some h
 have h2 := List.find?_some h
 obtain ⟨i,hi,rfl⟩ := List.mem_map.1 h1
 exact ⟨⟨i,List.mem_range.1 hi,rfl⟩,by simpa using h2⟩
theorem zq1075 {p : Pf} (hp : p.In) {kp : List Ad} {l : List Ls} (h : lsIn l) {now ttl : Int} (hc : zq568 p kp = 0) (ha : allC l now = 0) (hu : -9223372036854775808 ≤ now + ttl) (hu' : now + ttl < 9223372036854775808) (who : ByteArray) :
  zq1090 p kp l who now ttl = some (rawOf p kp (live l now) who (now + ttl)) := by
 obtain ⟨a1,a2,a3,a4⟩ := zq438 ha
 obtain ⟨c1,c2,c3⟩ := zq570 hc
 have hll := zq1118 l now
 unfold zq1090
 rw [zq1041 (by omega) now,zq487]
 have hbs := zq1116 h a3 now
 have hbi := zq1117 h now
 generalize live l now = b at hll hbs hbi ⊢
 obtain ⟨n1,n2,n3,n4⟩ := zq1229 hp c1 c2
 rw [zq1597 p kp l (show b.length ≤ 1048576 by omega) who,zq487]
 unfold rawOf
 have hin : ∀ a,zq862 p kp b = some a → a.In := fun a hf => by
  obtain ⟨⟨i,hi,rfl⟩,_⟩ := zq863 hf
  exact (zq397 n4 hi).1
 have hf := zq825 hp c1 c2 (kp := kp) (by omega) (b := b) (by omega)
 have hfu : b.length - 0 < FUEL := by have : FUEL = 18446744073709551616 := rfl; omega
 have hroom : ∀ a : Ad,(decide ((0 : Int) ≤ ((posF a b : Nat) : Int)) && decide (((posF a b : Nat) : Int) ≤ lenL b) && room (lenL b) 1) = true := fun a => by
  have := zq1399 a b
  rw [decide_eq_true (show (0 : Int) ≤ ((posF a b : Nat) : Int) by omega),decide_eq_true (show ((posF a b : Nat) : Int) ≤ lenL b by unfold lenL; omega),zq1574 (zq1107 _) (by omega) (by unfold lenL; omega)]
  rfl
 have hpick : ∀ (a : Ad) (x : Ls),x.ad = a → (br (decide (((posF a b : Nat) : Int) < lenL b)) (req (zq908 ((posF a b : Nat) : Int) (lenL b)) ((geti b ((posF a b : Nat) : Int)).bind fun p6 => (zq1071 p6 x).bind fun y7 => some (((posF a b : Nat) : Int),decide (y7.1 = 0),()))) (some (((posF a b : Nat) : Int),false,()))) =
   some (((posF a b : Nat) : Int),(br (decide (((posF a b : Nat) : Int) < lenL b)) ((geti b ((posF a b : Nat) : Int)).bind fun p6 => (zq1071 p6 x).bind fun y7 => some (decide (y7.1 = 0))) (some false)).getD false,()) := fun a x hx => by
  by_cases hlt : posF a b < b.length
  ·obtain ⟨e,he⟩ : ∃ e,b[posF a b]? = some e := ⟨_,zc0 hlt⟩
   rw [decide_eq_true (show ((posF a b : Nat) : Int) < lenL b by unfold lenL; omega),zq517,zq1560 (zq910 (by omega) (by unfold lenL; omega)),zq871 he,zq487,zq1071,zq418,zq487,zq487,zq517,zq487,zq1071,zq418,zq487,zq487]
   rfl
  ·rw [decide_eq_false (show ¬ ((posF a b : Nat) : Int) < lenL b by unfold lenL; omega),zq515,zq515]
   rfl
 cases hfw : zq816 (whoP who) b with
 | some k =>
  have hk := zq819 hfw
  obtain ⟨e,he⟩ : ∃ e,b[k]? = some e := ⟨_,zc0 hk⟩
  have r1 : zq908 (k : Int) (lenL b) = true := zq910 (by omega) (by unfold lenL; omega)
  have r2 : zq908 (k : Int) (lenL (seti b (k : Int) (⟨e.ad,e.who,now + ttl⟩ : Ls))) = true := zq910 (by omega) (by unfold lenL seti; simp only [List.length_set]; omega)
  have hg : geti (seti b (k : Int) (⟨e.ad,e.who,now + ttl⟩ : Ls)) (k : Int) = some ⟨e.ad,e.who,now + ttl⟩ := by
   rw [zq872]
   simp [seti,hk]
  simp only [rwOut,sumC]
  rw [decide_eq_true (show (k : Int) ≥ 0 by omega),zq517,zq1560 (zq904 hu hu')]
  simp only [r1,zq1562,zq871 he,zq487,r2,hg]
  unfold zq968
  rw [he]
  simp [seti]
 | none =>
  simp only [rwOut,sumC]
  show (zq332 p kp b).bind _ = _
  rw [hf,zq487]
  cases hfo : zq862 p kp b with
  | none => rfl
  | some a =>
   simp only [zq860,zc10,zq515]
   rw [zq1560 (zq904 hu hu')]
   have hl := zq518 (kp := kp) (l := l) (g := ([] : List Ls)) (p.ad.v6,p.ad.hi,p.ad.lo,p.bits,()) (p.ad.v6,p.ad.hi,p.ad.lo,p.bits,()) who ⟨false,0,0⟩ a ⟨a,who,now + ttl⟩ ⟨a,who,now + ttl⟩ (hin a hfo) hbi hbs (by omega) (lenL b) FUEL 0 b.length hfu (Nat.zero_le _) (zq1399 _ _) (zc47 _)
   rw [show ((0 : Nat) : Int) = 0 from rfl,show ((b.length : Nat) : Int) = lenL b from rfl] at hl
   rw [zq519,hl,zq487,hpick a ⟨a,who,now + ttl⟩ rfl,zq487]
   simp only [hroom a,zq1562,zq730,zq513]
   unfold zq1471 insAt insL
   simp
def zq886 (p : Pf) (kp : List Ad) (l : List Ls) (who : ByteArray) (now ttl : Int) : List Ls × Ad × Int × Unit :=
 if chkOf p kp l now ≠ 0 then ([],⟨false,0,0⟩,chkOf p kp l now,()) else if whoOk who = false then ([],⟨false,0,0⟩,1,()) else if betw ttl 1 500 = false then ([],⟨false,0,0⟩,3,())
 else if (rawOf p kp (live l now) who (now + ttl)).2.2.1 = false then ([],⟨false,0,0⟩,8,()) else ((rawOf p kp (live l now) who (now + ttl)).1,(rawOf p kp (live l now) who (now + ttl)).2.1,0,())
theorem zq564 {p : Pf} {kp : List Ad} {l : List Ls} {now : Int} (h : chkOf p kp l now = 0) : zq568 p kp = 0 ∧ allC l now = 0 ∧ ofF p [] l = 0 := by
 unfold chkOf at h
 split at h
 ·rename_i h1; exact absurd h h1
 split at h
 ·rename_i h1; exact absurd h h1
 ·rename_i h1 h2
  exact ⟨zc50.1 h1,zc50.1 h2,h⟩
end Go.Ma
namespace Go.Ma
open Go
def lsbL (n w : Nat) : List UInt8 := (List.range w).map (bitV n)
theorem zq1190 (n w : Nat) : (zq496 n (w - 1) w).reverse = lsbL n w := by
 apply List.ext_getElem?
 intro i
 by_cases hi : i < w
 ·rw [List.getElem?_reverse (by rw [zq499]; exact hi),zq499,zq498,if_pos (by omega)]
  simp only [lsbL,List.getElem?_map,List.getElem?_range hi,Option.map_some]
  rw [show w - 1 - (w - 1 - i) = i by omega]
 ·rw [zc22 (by simp [zq499]; omega),zc22 (by simp [lsbL]; omega)]
theorem zq1189 (n w : Nat) : lsbL n (w + 1) = bitV n 0 :: lsbL (n / 2) w := by
 unfold lsbL
 rw [List.range_succ_eq_map,List.map_cons,List.map_map]
 congr 1
 apply List.map_congr_left
 intro i _
 simp only [Function.comp]
 exact zq488 (by rw [Nat.testBit_succ])
theorem zq490 (n : Nat) : bitV n 0 = if n % 2 = 1 then 49 else 48 := by
 unfold bitV
 rw [Nat.testBit_zero]
 by_cases h : n % 2 = 1 <;> simp [h]
theorem zq915 : ∀ (w n : Nat),n < 2 ^ w → incR (lsbL n w) = if n + 1 < 2 ^ w then some (lsbL (n + 1) w) else none
 | 0,n,h => by
  have : n = 0 := by simpa using h
  subst this
  rfl
 | w + 1,n,h => by
  have hp : 2 ^ (w + 1) = 2 * 2 ^ w := by rw [Nat.pow_succ,Nat.mul_comm]
  rw [zq1189,zq1189,incR,zq490,zq490]
  by_cases hodd : n % 2 = 1
  ·have h1 : (n + 1) / 2 = n / 2 + 1 := by omega
   have h2 : ¬ (n + 1) % 2 = 1 := by omega
   rw [if_pos hodd,if_neg h2,if_neg (by decide),zq915 w (n / 2) (by omega),h1]
   by_cases h3 : n / 2 + 1 < 2 ^ w
   ·rw [if_pos h3,if_pos (by omega)]; rfl
   ·rw [if_neg h3,if_neg (by omega)]; rfl
  ·have h1 : (n + 1) / 2 = n / 2 := by omega
   have h2 : (n + 1) % 2 = 1 := by omega
   rw [if_neg hodd,if_pos h2,if_pos rfl,if_pos (by omega),h1]
theorem zq718 (m j : Nat) : m / 2 ^ j = 2 * (m / 2 ^ (j + 1)) + (if m.testBit j then 1 else 0) := by
 have h1 : m / 2 ^ (j + 1) = m / 2 ^ j / 2 := by rw [Nat.pow_succ,Nat.div_div_eq_div_mul]
 rw [h1,Nat.testBit_eq_decide_div_mod_eq]
 by_cases h : m / 2 ^ j % 2 = 1 <;> simp only [h,decide_true,decide_false,if_true,if_false,zc16] <;> omega
theorem zq493 (n i : Nat) : convI .u64 (aop .sub .u8 ((bitV n i).toNat : Int) 48) = ((if n.testBit i then 1 else 0 : Nat) : Int) := by
 unfold bitV
 cases n.testBit i <;> decide
theorem zq683 (x b r : Nat) (h : r = 2 * x + b) (hr : r < 18446744073709551616) : aop .add .u64 (aop .mul .u64 2 (x : Int)) (b : Int) = (r : Int) := by
 simp only [aop,zq1854]
 omega
def accN (v : Bool) (n k : Nat) : Ad := ⟨v,((n / 2 ^ (max k 64) : Nat) : Int),((n % 18446744073709551616 / 2 ^ k : Nat) : Int)⟩
theorem zq378 {v : Bool} {n k : Nat} (hn : n < 2 ^ 128) : accN v n k = if k + 1 > 64 then (⟨v,aop .add .u64 (aop .mul .u64 2 (accN v n (k + 1)).hi) ((if n.testBit k then 1 else 0 : Nat) : Int),(accN v n (k + 1)).lo⟩ : Ad)
  else ⟨v,(accN v n (k + 1)).hi,aop .add .u64 (aop .mul .u64 2 (accN v n (k + 1)).lo) ((if n.testBit k then 1 else 0 : Nat) : Int)⟩ := by
 by_cases hk : k + 1 > 64
 ·rw [if_pos hk]
  unfold accN
  simp only
  have e1 : max k 64 = k := by omega
  have e2 : max (k + 1) 64 = k + 1 := by omega
  rw [e1,e2]
  have hlt : n / 2 ^ k < 18446744073709551616 := by
   rw [Nat.div_lt_iff_lt_mul (Nat.two_pow_pos k)]
   have : 2 ^ 64 ≤ 2 ^ k := Nat.pow_le_pow_right (by omega) (by omega)
   calc n < 2 ^ 128 := hn
    _ = 18446744073709551616 * 2 ^ 64 := by decide
    _ ≤ _ := Nat.mul_le_mul_left _ this
  rw [zq683 _ _ _ (zq718 n k) hlt]
  have z : ∀ q,64 ≤ q → n % 18446744073709551616 / 2 ^ q = 0 := fun q hq => by
   apply Nat.div_eq_of_lt
   have : 2 ^ 64 ≤ 2 ^ q := Nat.pow_le_pow_right (by omega) hq
   omega
  rw [z k (by omega),z (k + 1) (by omega)]
 ·rw [if_neg hk]
  unfold accN
  simp only
  have e1 : max k 64 = 64 := by omega
  have e2 : max (k + 1) 64 = 64 := by omega
  rw [e1,e2]
  have ht : n.testBit k = (n % 18446744073709551616).testBit k := by
   rw [show (18446744073709551616 : Nat) = 2 ^ 64 from rfl,Nat.testBit_mod_two_pow]
   simp
   omega
  have hlt : n % 18446744073709551616 / 2 ^ k < 18446744073709551616 := Nat.lt_of_le_of_lt (Nat.div_le_self _ _) (Nat.mod_lt _ (by omega))
  rw [ht,zq683 _ _ _ (zq718 (n % 18446744073709551616) k) hlt]
theorem zq28 {v : Bool} {n : Nat} (h : n < 2 ^ wid v) : zq30 (zq1264 (zq496 n (wid v - 1) (wid v))) = some (ofNum v n,()) := by
 have hw := zq1849 v
 have hn : n < 2 ^ 128 := Nat.lt_of_lt_of_le h (Nat.le_trans hw (by decide))
 have hlen : (zq1264 (zq496 n (wid v - 1) (wid v))).size = wid v := by rw [zq1266,zq499]
 have hwl := zq1848 v
 unfold zq30
 have hv : decide (lenS (zq1264 (zq496 n (wid v - 1) (wid v))) = 128) = v := by
  unfold lenS
  rw [hlen]
  cases v <;> decide
 rw [hv]
 generalize hs : zq1264 (zq496 n (wid v - 1) (wid v)) = s at hlen ⊢
 have := zq1179 (step := zq22) (fun i => (((s,()),(),(),((i : Int),()),()),(((⟨false,0,0⟩ : Ad),()),(accN v n (wid v - i),()),()))) (wid v) (fun i => some (((),(),()),(((⟨false,0,0⟩ : Ad),()),(ofNum v n,()),()))) (fun rec i hi hr => ?_) (fun rec => ?_) FUEL 0 (Nat.zero_le _) (zq865 (by omega))
 ·have h0 : accN v n (wid v - 0) = ⟨v,0,0⟩ := by
   unfold accN
   have q1 : n / 2 ^ (max (wid v - 0) 64) = 0 := by
    apply Nat.div_eq_of_lt
    exact Nat.lt_of_lt_of_le h (Nat.pow_le_pow_right (by omega) (by omega))
   have q2 : n % 18446744073709551616 / 2 ^ (wid v - 0) = 0 := by
    apply Nat.div_eq_of_lt
    exact Nat.lt_of_le_of_lt (Nat.mod_le _ _) h
   rw [q1,q2]
   rfl
  rw [h0] at this
  rw [show ((0 : Nat) : Int) = 0 from rfl] at this
  rw [this,zq487]
 ·have hb : s.data.toList[i]? = some (bitV n (wid v - 1 - i)) := by
   rw [← hs,zq1265,zq498,if_pos hi]
  simp only [zq22]
  rw [decide_eq_true (show (i : Int) < lenS s by unfold lenS; omega),zq517,zq1560 (zq910 (by omega) (by unfold lenS; omega)),zq1560 (zq904 (by unfold lenS; omega) (by unfold lenS; omega)),zq528 hb,zq493]
  have hst := zq378 (v := v) (k := wid v - (i + 1)) hn
  rw [show wid v - (i + 1) + 1 = wid v - i by omega,show wid v - (i + 1) = wid v - 1 - i by omega] at hst
  rw [show ((i : Int) + 1) = ((i + 1 : Nat) : Int) by omega,show wid v - (i + 1) = wid v - 1 - i by omega] at *
  by_cases hk : wid v - i > 64
  ·rw [if_pos hk] at hst
   rw [decide_eq_true (show lenS s - (i : Int) > 64 by unfold lenS; omega),zq517,zq1560 (zq904 (by omega) (by omega))]
   rw [show (accN v n (wid v - i)).v6 = v from rfl,← hst,hr]
  ·rw [if_neg hk] at hst
   rw [decide_eq_false (show ¬ lenS s - (i : Int) > 64 by unfold lenS; omega),zq515,zq1560 (zq904 (by omega) (by omega))]
   rw [show (accN v n (wid v - i)).v6 = v from rfl,← hst,hr]
 ·simp only [zq22]
  rw [decide_eq_false (show ¬ ((wid v : Nat) : Int) < lenS s by unfold lenS; omega),zq515]
  have : accN v n (wid v - wid v) = ofNum v n := by
   unfold accN ofNum
   rw [Nat.sub_self,show max 0 64 = 64 from rfl,show (2 : Nat) ^ 64 = 18446744073709551616 from rfl,Nat.pow_zero,Nat.div_one]
  rw [this]
theorem zq212 {v : Bool} {n : Nat} (h : n < 2 ^ wid v) : zq214 (ofNum v n) = some (if n + 1 < 2 ^ wid v then (ofNum v (n + 1),true,()) else (⟨false,0,0⟩,false,())) := by
 have hin := zq1270 h
 have hwl := zq1848 v
 unfold zq214
 rw [zq49 hin,zq487,zq494 hin.wf (zq1269 h),zq1262,show (ofNum v n).v6 = v from rfl]
 rw [zq1560 (Nat.ble_eq_true_of_le (by rw [zq1266,zq499]; omega)),zq1265,zq1190,zq915 _ _ h]
 by_cases h1 : n + 1 < 2 ^ wid v
 ·rw [if_pos h1,if_pos h1]
  simp only
  have : (⟨(lsbL (n + 1) (wid v)).reverse.toArray⟩ : ByteArray) = zq1264 (zq496 (n + 1) (wid v - 1) (wid v)) := by
   rw [← zq1190,List.reverse_reverse]
   rfl
  rw [this,zq28 h1,zq487]
 ·rw [if_neg h1,if_neg h1]
end Go.Ma
namespace Go.Ma
open Go
theorem zq316 {kp : List Ad} (hlen : kp.length ≤ 1048576) (a : Ad) : zq318 kp a = some (kp.any (fun x => decide (a = x)),()) := by
 unfold zq318
 have := zq1179 (step := zq310) (fun i => (((),(),((i : Int),()),()),(kp,(a,()),()))) kp.length (fun i => some (if (kp.drop i).any (fun x => decide (a = x)) = true then Sum.inl (((true,()),()),(kp,())) else Sum.inr ((),(kp,())))) (fun rec i hi hr => ?_) (fun rec => ?_) FUEL 0 (Nat.zero_le _) (zq865 (by omega))
 ·rw [show ((0 : Nat) : Int) = 0 from rfl,List.drop_zero] at this
  rw [this,zq487]
  cases kp.any (fun x => decide (a = x)) <;> rfl
 ·obtain ⟨e,he⟩ : ∃ e,kp[i]? = some e := ⟨_,zc0 hi⟩
  simp only [zq310]
  rw [decide_eq_true (show (i : Int) < lenL kp by unfold lenL; omega),zq517,zq1560 (zq910 (by omega) (by unfold lenL; omega)),zq871 he,zq487,zq748,zq728 he,List.any_cons]
  by_cases hc : e = a
  ·subst hc
   simp only [decide_true,zq517,Bool.true_or,if_true]
  ·have hc' : ¬ a = e := fun h => hc h.symm
   simp only [hc,hc',decide_false,zq515,Bool.false_or]
   rw [show ((i : Int) + 1) = ((i + 1 : Nat) : Int) by omega,zq1560 (zq904 (by omega) (by omega)),hr]
 ·simp only [zq310]
  rw [decide_eq_false (show ¬ (kp.length : Int) < lenL kp by unfold lenL; omega),zq515,zc18 (zc47 _)]
  rfl
abbrev Q4 := Bool × Int × Int × Int × Unit
theorem zq1106 {b : List Ls} (hlen : b.length ≤ 1048576) (who : ByteArray) (now ttl n : Int) (kp : List Ad) (l g : List Ls) (q : Q4) (a0 a : Ad) :
  loopN zq151 FUEL (((who,()),(now,()),(ttl,()),(),(),(),(),(),(n,()),(false,()),(0,()),()),(kp,l,q,(a0,()),b,g,(a,()),())) =
   some (((who,()),(now,()),(ttl,()),(),(),(),(),(),(n,()),(b.any (fun x => decide (x.ad = a)),()),()),(kp,l,q,(a0,()),b,g,(a,()),())) := by
 obtain ⟨q1,q2,q3,q4,_⟩ := q
 have := zq1179 (step := zq151) (fun i => (((who,()),(now,()),(ttl,()),(),(),(),(),(),(n,()),((b.take i).any (fun x => decide (x.ad = a)),()),((i : Int),()),()),(kp,l,((q1,q2,q3,q4,()) : Q4),(a0,()),b,g,(a,()),()))) b.length
  (fun i => some (((who,()),(now,()),(ttl,()),(),(),(),(),(),(n,()),(b.any (fun x => decide (x.ad = a)),()),()),(kp,l,((q1,q2,q3,q4,()) : Q4),(a0,()),b,g,(a,()),()))) (fun rec i hi hr => ?_) (fun rec => ?_) FUEL 0 (Nat.zero_le _) (zq865 (by omega))
 ·exact this
 ·obtain ⟨e,he⟩ : ∃ e,b[i]? = some e := ⟨_,zc0 hi⟩
  have r1 : zq908 (i : Int) (lenL b) = true := zq910 (by omega) (by unfold lenL; omega)
  simp only [zq151]
  rw [decide_eq_true (show (i : Int) < lenL b by unfold lenL; omega),zq517]
  simp only [r1,zq1562,zq871 he,zq487,br_ss,zq748]
  have : (b.take (i + 1)).any (fun x => decide (x.ad = a)) = bif (b.take i).any (fun x => decide (x.ad = a)) then true else decide (e.ad = a) := by
   rw [zq1808 he,List.any_append]
   simp only [List.any_cons,List.any_nil,Bool.or_false]
   cases (b.take i).any (fun x => decide (x.ad = a)) <;> rfl
  rw [← this,show ((i : Int) + 1) = ((i + 1 : Nat) : Int) by omega,zq1560 (zq904 (by omega) (by omega)),hr]
 ·simp only [zq151]
  rw [decide_eq_false (show ¬ (b.length : Int) < lenL b by unfold lenL; omega),zq515,List.take_of_length_le (zc47 _)]
def insSt (b : List Ls) (x : Ls) (k : Nat) : Bool × List Ls := if k ≤ posF x.ad b then (false,b.take k) else (true,b.take (posF x.ad b) ++ x :: (b.drop (posF x.ad b)).take (k - posF x.ad b))
theorem zq952 {b : List Ls} (hb : lsIn b) (hc : ∀ y ∈ b,chkLs y = 0) (hs : ascL b = true) (hlen : b.length ≤ 20) {x : Ls} (hx : x.ad.In) (cx : chkA x.ad = 0) (hne : b.any (fun y => decide (y.ad = x.ad)) = false) (kp : List Ad) (l : List Ls) (a0 : Ad) :
  loopN zq154 FUEL (((),(),(),(),(),(false,()),(0,()),()),(kp,l,(a0,()),b,([] : List Ls),(x.ad,()),(x,()),())) =
   some (((),(),(),(),((insSt b x b.length).1,()),()),(kp,l,(a0,()),(insSt b x b.length).2,(x.ad,()),(x,()),())) := by
 have hp := zq1399 x.ad b
 have hlen2 : ∀ k,k ≤ b.length → (insSt b x k).2.length ≤ 21 := fun k hk => by
  unfold insSt
  split
  ·simp; omega
  ·simp; omega
 have := zq1179 (step := zq154) (fun i => (((),(),(),(),(),((insSt b x i).1,()),((i : Int),()),()),(kp,l,(a0,()),b,(insSt b x i).2,(x.ad,()),(x,()),()))) b.length
  (fun i => some (((),(),(),(),((insSt b x b.length).1,()),()),(kp,l,(a0,()),(insSt b x b.length).2,(x.ad,()),(x,()),()))) (fun rec i hi hr => ?_) (fun rec => ?_) FUEL 0 (Nat.zero_le _) (zq865 (by omega))
 ·have h0 : insSt b x 0 = (false,[]) := by unfold insSt; rw [if_pos (Nat.zero_le _)]; rfl
  rw [h0] at this
  exact this
 ·obtain ⟨e,he⟩ : ∃ e,b[i]? = some e := ⟨_,zc0 hi⟩
  have hm := zc5 he
  have r1 : zq908 (i : Int) (lenL b) = true := zq910 (by omega) (by unfold lenL; omega)
  have hl2 := hlen2 i (by omega)
  have hpi := zq1402 hx hb hs he
  have hah : zq425 x.ad e.ad = !decide (ordA e.ad x.ad < 0) := by
   have hne2 : e.ad ≠ x.ad := fun h => by
    have := List.any_eq_false.1 hne e hm
    simp [h] at this
   have h1 := zq1348 (hb e hm).1 hx
   rw [zq431 hx (hb e hm).1]
   have h2 : rank e.ad ≠ rank x.ad := fun h => hne2 (zq1507 (hb e hm).1 hx h)
   by_cases h3 : ordA e.ad x.ad < 0
   ·have := h1.1.1 h3
    rw [decide_eq_true h3,decide_eq_false (by omega)]
    rfl
   ·have : ¬ rank e.ad < rank x.ad := fun h => h3 (h1.1.2 h)
    rw [decide_eq_false h3,decide_eq_true (by omega)]
    rfl
  simp only [zq154]
  rw [decide_eq_true (show (i : Int) < lenL b by unfold lenL; omega),zq517]
  simp only [r1,zq1562,zq871 he,zq487,zq184 hx (hb e hm).1 cx (zq561 (hc e hm)).1,hah]
  have i1 : i64ok ((i : Int) + 1) = true := zq904 (by omega) (by omega)
  have rm : ∀ (y : Ls) (z : List Ls),z.length ≤ 22 → room (lenL z) (lenL ([y] : List Ls)) = true := fun y z hz => zq1574 (zq1107 _) (zq1107 _) (by unfold lenL; simp only [zc21,zc32]; omega)
  rw [show ((i : Int) + 1) = ((i + 1 : Nat) : Int) by omega] at i1 ⊢
  have rm1 := rm x (insSt b x i).2 (by omega)
  have rm2 := rm e (insSt b x i).2 (by omega)
  have rm3 := rm e ((insSt b x i).2 ++ [x]) (by simp; omega)
  simp only [i1,rm1,rm2,rm3,zq1562]
  by_cases h1 : i ≤ posF x.ad b
  ·have e1 : insSt b x i = (false,b.take i) := by unfold insSt; rw [if_pos h1]
   rw [e1]
   simp only [zc19,zq517,zq487]
   by_cases h2 : i < posF x.ad b
   ·have e2 : insSt b x (i + 1) = (false,b.take (i + 1)) := by unfold insSt; rw [if_pos (by omega)]
    rw [decide_eq_true (hpi.2 h2),zc10,zq515,← zq1808 he]
    rw [e2] at hr
    exact hr
   ·have hpe : posF x.ad b = i := by omega
    have e2 : insSt b x (i + 1) = (true,(b.take i ++ [x]) ++ [e]) := by
     unfold insSt
     rw [if_neg (by omega),hpe,show i + 1 - i = 1 by omega,zq728 he]
     simp
    rw [decide_eq_false (fun h => h2 (hpi.1 h)),zc19,zq517]
    rw [e2] at hr
    exact hr
  ·have e1 : insSt b x i = (true,b.take (posF x.ad b) ++ x :: (b.drop (posF x.ad b)).take (i - posF x.ad b)) := by unfold insSt; rw [if_neg h1]
   have e2 : insSt b x (i + 1) = (true,(b.take (posF x.ad b) ++ x :: (b.drop (posF x.ad b)).take (i - posF x.ad b)) ++ [e]) := by
    unfold insSt
    rw [if_neg (by omega),show i + 1 - posF x.ad b = i - posF x.ad b + 1 by omega]
    have : (b.drop (posF x.ad b))[i - posF x.ad b]? = some e := by
     rw [zc39,show posF x.ad b + (i - posF x.ad b) = i by omega,he]
    rw [zq1808 this]
    simp
   rw [e2] at hr
   rw [e1]
   simp only [zc10,zq515,zq487]
   exact hr
 ·simp only [zq154]
  rw [decide_eq_false (show ¬ (b.length : Int) < lenL b by unfold lenL; omega),zq515]
theorem zq948 (b : List Ls) (x : Ls) : (bif (insSt b x b.length).1 then (insSt b x b.length).2 else (insSt b x b.length).2 ++ [x]) = insAt b x := by
 have := zq1399 x.ad b
 unfold insSt insAt
 by_cases h : b.length ≤ posF x.ad b
 ·have e : posF x.ad b = b.length := by omega
  rw [if_pos h,e]
  simp
 ·rw [if_neg h]
  simp only [cond_true]
  rw [List.take_of_length_le (l := b.drop (posF x.ad b)) (by simp)]
theorem zq899 {p : Pf} (hp : p.In) (cp : chkP p = 0) (hn : ((wid p.ad.v6 : Nat) : Int) - p.bits ≤ 4) {i : Nat} : holds p (addrI p i) = decide (i < 2 ^ zq861 p) := by
 obtain ⟨n1,n2,n3,n4⟩ := zq1229 hp cp hn
 have hpp := Nat.two_pow_pos (zq861 p)
 unfold holds addrI
 rw [show (ofNum p.ad.v6 (p.ad.num + i)).v6 = p.ad.v6 from rfl,beq_self_eq_true,Bool.true_and]
 refine decide_eq_decide.2 ?_
 unfold cutA
 rw [zq1262,show (ofNum p.ad.v6 (p.ad.num + i)).v6 = p.ad.v6 from rfl]
 show ofNum p.ad.v6 (cutN (p.ad.num + i) (zq861 p)) = p.ad ↔ _
 have hq : cutN (p.ad.num + i) (zq861 p) = p.ad.num ↔ i < 2 ^ zq861 p := by
  unfold cutN
  obtain ⟨m,hm⟩ := Nat.dvd_of_mod_eq_zero n3
  rw [hm,Nat.mul_add_div hpp]
  constructor
  ·intro h
   have h1 : i / 2 ^ zq861 p = 0 := by
    rw [Nat.mul_comm (2 ^ zq861 p) m] at h
    have := Nat.eq_of_mul_eq_mul_right hpp h
    omega
   rcases Nat.div_eq_zero_iff.1 h1 with h2 | h2
   ·omega
   ·exact h2
  ·intro h
   rw [Nat.div_eq_of_lt h,Nat.add_zero,Nat.mul_comm]
 rw [← hq]
 constructor
 ·intro h
  have := congrArg Ad.num h
  rwa [zq1262] at this
 ·intro h
  rw [h,zq1272 _ hp.1.wf]
def hitB (p : Pf) (kp : List Ad) (b : List Ls) (i : Nat) : Bool := decide (i < 2 ^ zq861 p) && !zq1812 kp b (addrI p i)
theorem zq898 {p : Pf} (n2 : 2 ^ zq861 p ≤ 16) (kp : List Ad) (b : List Ls) : ((List.range' 0 16).find? (hitB p kp b)).map (addrI p) = zq862 p kp b := by
 unfold zq862
 rw [List.find?_map]
 congr 1
 have hr : List.range' 0 16 = List.range (2 ^ zq861 p) ++ List.range' (2 ^ zq861 p) (16 - 2 ^ zq861 p) := by
  have h1 : List.range' 0 (2 ^ zq861 p) ++ List.range' (0 + 2 ^ zq861 p) (16 - 2 ^ zq861 p) = List.range' 0 (2 ^ zq861 p + (16 - 2 ^ zq861 p)) := List.range'_append_1
  rw [Nat.zero_add,show 2 ^ zq861 p + (16 - 2 ^ zq861 p) = 16 by omega] at h1
  rw [List.range_eq_range',h1]
 rw [hr,List.find?_append]
 have h2 : (List.range' (2 ^ zq861 p) (16 - 2 ^ zq861 p)).find? (hitB p kp b) = none := by
  rw [List.find?_eq_none]
  intro i hi
  have := (List.mem_range'_1.1 hi).1
  unfold hitB
  rw [decide_eq_false (by omega)]
  simp
 rw [h2,Option.or_none]
 have : ∀ l : List Nat,(∀ i ∈ l,i < 2 ^ zq861 p) → l.find? (hitB p kp b) = l.find? ((fun a => !zq1812 kp b a) ∘ addrI p) := by
  intro l
  induction l with
  | nil => intro _; rfl
  | cons i r ih =>
   intro h
   rw [List.find?_cons,List.find?_cons,ih fun j hj => h j (by simp [hj])]
   have : hitB p kp b i = ((fun a => !zq1812 kp b a) ∘ addrI p) i := by
    unfold hitB
    rw [decide_eq_true (h i (by simp))]
    rfl
   rw [this]
 exact this _ fun i hi => List.mem_range.1 hi
def goG (kp : List Ad) (l b : List Ls) (who : ByteArray) (u : Int) (a0 : Ad) : Option Ad → (((Unit) × (Unit) × (Bool × Unit) × Unit) × (List Ad × List Ls × List Ls × (Ad × Unit) × Unit)) ⊕ (((Unit) × Unit) × (List Ad × List Ls × (Ad × Unit) × Unit))
 | some a => Sum.inl (((),(),(true,()),()),(kp,l,insAt b ⟨a,who,u⟩,(a,()),()))
 | none => Sum.inr (((),()),(kp,l,(a0,()),()))
theorem zq889 {p : Pf} (hp : p.In) (cp : chkP p = 0) (hn : ((wid p.ad.v6 : Nat) : Int) - p.bits ≤ 4) {kp : List Ad} (hk : kp.length ≤ 1048576) (l : List Ls) {b : List Ls} (hb : lsIn b) (hc : ∀ y ∈ b,chkLs y = 0) (hs : ascL b = true) (hlen : b.length ≤ 20)
  (who : ByteArray) (now ttl : Int) (hu : i64ok (now + ttl) = true) (a0 : Ad) : ∀ (N n : Nat),16 - n < N → n ≤ 16 → p.ad.num + n < 2 ^ wid p.ad.v6 →
   loopN zq157 N (((who,()),(now,()),(ttl,()),(),(),(),(),(),((n : Int),()),()),(kp,l,(p.ad.v6,p.ad.hi,p.ad.lo,p.bits,()),(a0,()),b,([] : List Ls),(addrI p n,()),())) =
    some (goG kp l b who (now + ttl) a0 (((List.range' n (16 - n)).find? (hitB p kp b)).map (addrI p)))
 | 0,_,h,_,_ => by omega
 | N + 1,n,hN,h16,hv => by
  obtain ⟨n1,n2,n3,n4⟩ := zq1229 hp cp hn
  rw [zq1176]
  simp only [zq157]
  by_cases hlt : n < 16
  rotate_left
  ·have : n = 16 := by omega
   subst this
   rw [decide_eq_false (by omega),zq515]
   rfl
  rw [decide_eq_true (show (n : Int) < 16 by omega),zq517,zq1106 (show b.length ≤ 1048576 by omega),zq487]
  simp only []
  have hin : (addrI p n).In := zq1270 hv
  have hca : chkA (addrI p n) = 0 := zq1269 hv
  rw [zq169 (p := p) hp cp hin hca,zq487,zq899 hp cp hn,br_ss,zq487]
  have hr : List.range' n (16 - n) = n :: List.range' (n + 1) (16 - (n + 1)) := by
   rw [show 16 - n = 16 - (n + 1) + 1 by omega,List.range'_succ]
  rw [hr,List.find?_cons]
  have hgo : ((zq214 (addrI p n)).bind fun y5 =>
    br (!y5.2.1)
     (some (Sum.inr ((((),()),(kp,l,(a0,()),())))))
     (req (i64ok ((n : Int) + 1)) <|
     loopN zq157 N (((who,()),(now,()),(ttl,()),(),(),(),(),(),((n : Int) + 1,()),()),(kp,l,(p.ad.v6,p.ad.hi,p.ad.lo,p.bits,()),(a0,()),b,([] : List Ls),(y5.1,()),())))) =
    some (goG kp l b who (now + ttl) a0 (((List.range' (n + 1) (16 - (n + 1))).find? (hitB p kp b)).map (addrI p))) := by
   have e : addrI p (n + 1) = ofNum p.ad.v6 (p.ad.num + n + 1) := by unfold addrI; rw [Nat.add_assoc]
   have hnx := zq212 hv
   rw [← e,← addrI] at hnx
   rw [hnx,zq487]
   by_cases h1 : p.ad.num + n + 1 < 2 ^ wid p.ad.v6
   ·rw [if_pos h1]
    simp only [zc10,zq515]
    rw [show ((n : Int) + 1) = ((n + 1 : Nat) : Int) by omega,zq1560 (zq904 (by omega) (by omega))]
    exact zq889 hp cp hn hk l hb hc hs hlen who now ttl hu a0 N (n + 1) (by omega) (by omega) (by omega)
   ·rw [if_neg h1]
    have h2 : (List.range' (n + 1) (16 - (n + 1))).find? (hitB p kp b) = none := by
     rw [List.find?_eq_none]
     intro i hi
     have := (List.mem_range'_1.1 hi).1
     unfold hitB
     rw [decide_eq_false (by omega)]
     simp
    rw [h2]
    rfl
  have hhit : hitB p kp b n = (decide (n < 2 ^ zq861 p) && !(kp.any (fun x => decide (addrI p n = x)) || b.any (fun x => decide (x.ad = addrI p n)))) := rfl
  rw [hhit]
  cases decide (n < 2 ^ zq861 p)
  ·simp only [cond_false,zq515,zq487,Bool.false_and]
   exact hgo
  cases hba : b.any (fun x => decide (x.ad = addrI p n))
  rotate_left
  ·simp only [cond_true,zc10,zq515,zq487,Bool.or_true,Bool.and_false]
   exact hgo
  simp only [cond_true,zc19,zq517,zq316 hk,zq487,Bool.or_false,Bool.true_and]
  cases hka : kp.any (fun x => decide (addrI p n = x))
  rotate_left
  ·simp only [zc10,zq515]
   exact hgo
  simp only [zc19,zq517]
  rw [zq1560 hu]
  have hI : loopN zq154 FUEL (((),(),(),(),(),(false,()),(0,()),()),(kp,l,(a0,()),b,([] : List Ls),(addrI p n,()),((⟨addrI p n,who,now + ttl⟩ : Ls),()),())) =
    some (((),(),(),(),((insSt b ⟨addrI p n,who,now + ttl⟩ b.length).1,()),()),(kp,l,(a0,()),(insSt b ⟨addrI p n,who,now + ttl⟩ b.length).2,(addrI p n,()),((⟨addrI p n,who,now + ttl⟩ : Ls),()),())) :=
   zq952 (x := ⟨addrI p n,who,now + ttl⟩) hb hc hs hlen hin hca hba kp l a0
  rw [hI,zq487]
  simp only [Option.map_some,goG]
  rw [← zq948]
  have hl2 : (insSt b ⟨addrI p n,who,now + ttl⟩ b.length).2.length ≤ 21 := by
   have := zq1399 (addrI p n) b
   unfold insSt
   split
   ·simp; omega
   ·simp; omega
  cases (insSt b ⟨addrI p n,who,now + ttl⟩ b.length).1
  ·simp only [zc19,zq517,cond_false]
   rw [zq1560 (zq1574 (zq1107 _) (zq1107 _) (by unfold lenL; simp only [zc21,zc32]; omega))]
  ·simp only [zc10,zq515,cond_true]
theorem zq163 {p : Pf} (hp : p.In) {kp : List Ad} {l : List Ls} (h : lsIn l) {now ttl : Int} (hc : zq568 p kp = 0) (ha : allC l now = 0) (hu : i64ok (now + ttl) = true) (who : ByteArray) :
  zq165 p kp l who now ttl = some (rawOf p kp (live l now) who (now + ttl)) := by
 obtain ⟨a1,a2,a3,a4⟩ := zq438 ha
 obtain ⟨c1,c2,c3⟩ := zq570 hc
 have hll := zq1118 l now
 unfold zq165
 rw [zq208 (by omega) now,zq487]
 have hbs := zq1116 h a3 now
 have hbi := zq1117 h now
 have hbc : ∀ y ∈ live l now,chkLs y = 0 := fun y hy => a2 y (List.mem_filter.1 hy).1
 generalize live l now = b at hll hbs hbi hbc ⊢
 obtain ⟨n1,n2,n3,n4⟩ := zq1229 hp c1 c2
 rw [zq295 (show b.length ≤ 9223372036854775807 by omega),zq487]
 unfold rawOf
 cases hfw : zq816 (whoP who) b with
 | some k =>
  have hk := zq819 hfw
  obtain ⟨e,he⟩ : ∃ e,b[k]? = some e := ⟨_,zc0 hk⟩
  have r1 : zq908 (k : Int) (lenL b) = true := zq910 (by omega) (by unfold lenL; omega)
  have r2 : zq908 (k : Int) (lenL (seti b (k : Int) (⟨e.ad,e.who,now + ttl⟩ : Ls))) = true := zq910 (by omega) (by unfold lenL seti; simp only [List.length_set]; omega)
  have hg : geti (seti b (k : Int) (⟨e.ad,e.who,now + ttl⟩ : Ls)) (k : Int) = some ⟨e.ad,e.who,now + ttl⟩ := by
   rw [zq872]
   simp [seti,hk]
  simp only [zq906,Option.isSome_some,zq517]
  simp only [idxI]
  rw [zq1560 hu]
  simp only [r1,zq1562,zq871 he,zq487,r2,hg]
  unfold zq968
  rw [he]
  simp [seti]
 | none =>
  simp only [zq906,Option.isSome_none,zq515]
  have hg := zq889 hp c1 c2 (kp := kp) (by omega) l hbi hbc hbs (by omega) who now ttl hu ⟨false,0,0⟩ FUEL 0 (by have : FUEL = 18446744073709551616 := rfl; omega) (by omega) (by have := Nat.two_pow_pos (zq861 p); omega)
  have h0 : addrI p 0 = p.ad := by
   unfold addrI
   rw [Nat.add_zero,zq1272 _ hp.1.wf]
  rw [h0,show ((0 : Nat) : Int) = 0 from rfl,show 16 - 0 = 16 from rfl,zq898 n2] at hg
  rw [hg,zq487]
  cases zq862 p kp b <;> rfl
end Go.Ma
namespace Go.Ma
open Go
theorem zq1121 {l : List Ls} {now : Int} {x : Ls} (h : x ∈ live l now) : x ∈ l ∧ now ≤ x.upto := ⟨(List.mem_filter.1 h).1,by have := (List.mem_filter.1 h).2; simpa [liveP] using this⟩
theorem zq1187 : lsIn [] := fun x hx => by cases hx
theorem zq560 : ∀ {l : List Ls},(∀ x ∈ l,chkLs x = 0) → zq558 l = 0
 | [],_ => rfl
 | y :: r,h => by
  unfold zq558
  rw [if_neg (fun h' => h' (h y (by simp))),zq560 fun x hx => h x (by simp [hx])]
end Go.Ma
namespace Go.Ma
open Go
end Go.Ma
namespace Go.Ma
open Go
end Go.Ma
namespace Go.Ma
open Go
theorem zq1442 {p q : Pf} (hp : chkP p = 0) (hq : chkP q = 0) : zq1444 p q = some (ordP p q,()) := by
 have h1 := zq566 hp
 have h2 := zq566 hq
 have h3 := zq1848 p.ad.v6
 have h4 := zq1848 q.ad.v6
 unfold zq1444 ordP
 rw [zq418,zq487]
 by_cases h : ordA p.ad q.ad = 0
 ·rw [decide_eq_true (show (ordA p.ad q.ad,()).1 = 0 from h),zc10,zq515,if_neg (fun h' => h' h),zq1560 (zq904 (by omega) (by omega))]
 ·rw [decide_eq_false (show ¬ (ordA p.ad q.ad,()).1 = 0 from h),zc19,zq517,if_pos h]
def zq426 (p q : Pf) : Bool := if p.ad ≠ q.ad then zq425 p.ad q.ad else decide (p.bits < q.bits)
theorem zq227 {p q : Pf} (hp : p.In) (hq : q.In) (cp : chkP p = 0) (cq : chkP q = 0) : zq229 p q = some (zq426 p q,()) := by
 unfold zq229 zq426
 rw [zq748]
 by_cases h : p.ad = q.ad
 ·rw [decide_eq_true h,zc10,zq515,if_neg (fun h' => h' h)]
 ·rw [decide_eq_false h,zc19,zq517,if_pos h,zq184 hp.1 hq.1 (zq565 cp) (zq565 cq),zq487]
theorem zq1347 {p q : Pf} (hp : p.In) (hq : q.In) : decide (ordP q p > 0) = zq426 p q := by
 unfold ordP zq426
 have e : (p.ad = q.ad) ↔ (p.ad.v6 = q.ad.v6 ∧ p.ad.hi = q.ad.hi ∧ p.ad.lo = q.ad.lo) := by
  cases p.ad; cases q.ad
  simp only [Ad.mk.injEq]
 have hn : p.ad.v6 = q.ad.v6 → (p.ad.num < q.ad.num ↔ (p.ad.hi < q.ad.hi ∨ (p.ad.hi = q.ad.hi ∧ p.ad.lo < q.ad.lo))) := by
  intro _
  obtain ⟨⟨a1,a2⟩,a3,a4⟩ := hp.1
  obtain ⟨⟨b1,b2⟩,b3,b4⟩ := hq.1
  unfold Ad.num
  omega
 unfold ordA ordI zq425
 by_cases hv : p.ad.v6 = q.ad.v6
 ·have hv' : q.ad.v6 = p.ad.v6 := hv.symm
  rw [Bool.eq_iff_iff,decide_eq_true_iff]
  simp only [hv,ne_eq,not_true,false_and,if_false]
  have hn := hn hv
  by_cases h1 : p.ad.hi = q.ad.hi
  ·by_cases h2 : p.ad.lo = q.ad.lo
   ·have := e.2 ⟨hv,h1,h2⟩
    simp [this]
    try omega
   ·have hne : ¬ p.ad = q.ad := fun h => h2 (e.1 h).2.2
    simp only [h1,not_true,if_false,hne,not_false_eq_true,if_true,decide_eq_true_iff,hn]
    by_cases h3 : q.ad.lo < p.ad.lo
    ·simp [h3]; try omega
    ·have h4 : q.ad.lo > p.ad.lo := by omega
     simp [h3,h4]
  ·have hne : ¬ p.ad = q.ad := fun h => h1 (e.1 h).2.1
   have h1' : ¬ q.ad.hi = p.ad.hi := fun h => h1 h.symm
   simp only [h1',not_false_eq_true,if_true,hne,decide_eq_true_iff,hn]
   by_cases h3 : q.ad.hi < p.ad.hi
   ·simp [h3]; try omega
   ·have h4 : q.ad.hi > p.ad.hi := by omega
    simp [h3,h4]
 ·have hne : ¬ p.ad = q.ad := fun h => hv (e.1 h).1
  have hv' : ¬ q.ad.v6 = p.ad.v6 := fun h => hv h.symm
  simp only [hne,hv,hv',ne_eq,not_false_eq_true,true_and,if_true]
  cases hp6 : p.ad.v6 <;> cases hq6 : q.ad.v6
  ·rw [hp6,hq6] at hv; exact absurd rfl hv
  ·simp
  ·simp
  ·rw [hp6,hq6] at hv; exact absurd rfl hv
theorem zq1448 {p q : Pf} (cp : chkP p = 0) (hq : q.In) : zq1450 p q = some (over p q,()) := by
 obtain ⟨h1,h2⟩ := zq566 cp
 unfold zq1450 over
 rw [zq1424 h1 h2 hq.1,zq487,br_sb,zq487]
 cases decide (p.bits ≤ q.bits) <;> rfl
theorem zq175 {p q : Pf} (hp : p.In) (cp : chkP p = 0) (hq : q.In) (cq : chkA q.ad = 0) : zq177 p q = some (over p q,()) := by
 unfold zq177 over
 rw [zq169 hp cp hq.1 cq,zq487,br_sb,zq487]
 cases decide (p.bits ≤ q.bits) <;> rfl
end Go.Ma
namespace Go.Ma
open Go
end Go.Ma
namespace Go.Ma
open Go
end Go.Ma
namespace Go.Ma
open Go
end Go.Ma
namespace Go.Ma
open Go
end Go.Ma
namespace Go.Ma
open Go
theorem zq900 {p : Pf} {a : Ad} : holds p a = true ↔ p.ad.v6 = a.v6 ∧ cutA a p.bits = p.ad := by simp [holds]
theorem zq1356 {p q : Pf} : over p q = true ↔ p.bits ≤ q.bits ∧ holds p q.ad = true := by simp [over]
theorem zq901 {p : Pf} (cp : chkP p = 0) : holds p p.ad = true := by
 rw [zq900]
 exact ⟨rfl,zq567 cp⟩
end Go.Ma
namespace Go.Ma
open Go
def free (p : Pf) : Nat := wid p.ad.v6 - p.bits.toNat
theorem zq864 {p : Pf} (hp : p.In) (cp : chkP p = 0) : free p ≤ wid p.ad.v6 ∧ p.ad.num % 2 ^ free p = 0 ∧ p.ad.num + 2 ^ free p ≤ 2 ^ wid p.ad.v6 := by
 have h3 : p.ad.num % 2 ^ free p = 0 := (zq679 _ _).1 ((zq676 hp.1.wf p.bits).1 (zq567 cp))
 have h4 := zq1573 p.ad ⟨hp.1.wf,zq565 cp⟩
 have hk : free p ≤ wid p.ad.v6 := by unfold free; omega
 refine ⟨hk,h3,?_⟩
 have h5 : 2 ^ wid p.ad.v6 = 2 ^ free p * 2 ^ (wid p.ad.v6 - free p) := by rw [← Nat.pow_add]; congr 1; omega
 obtain ⟨m,hm⟩ := Nat.dvd_of_mod_eq_zero h3
 rw [hm,h5] at h4 ⊢
 have := Nat.lt_of_mul_lt_mul_left h4
 calc 2 ^ free p * m + 2 ^ free p = 2 ^ free p * (m + 1) := by rw [Nat.mul_add,Nat.mul_one]
  _ ≤ _ := Nat.mul_le_mul_left _ this
theorem zq902 {p : Pf} {a : Ad} (hp : p.In) (cp : chkP p = 0) (ha : a.In) : holds p a = true ↔ p.ad.v6 = a.v6 ∧ p.ad.num ≤ a.num ∧ a.num < p.ad.num + 2 ^ free p := by
 obtain ⟨f1,f2,f3⟩ := zq864 hp cp
 have hpp := Nat.two_pow_pos (free p)
 rw [zq900]
 constructor
 ·rintro ⟨h1,h2⟩
  have h3 : p.ad.num = cutN a.num (free p) := by
   have h4 : (cutA a p.bits).num = cutN a.num (wid a.v6 - p.bits.toNat) := by unfold cutA; rw [zq1262]
   rw [h2] at h4
   rw [h4]
   unfold free
   rw [h1]
  unfold cutN at h3
  have := Nat.div_add_mod a.num (2 ^ free p)
  have h5 := Nat.mod_lt a.num hpp
  rw [Nat.mul_comm] at this
  refine ⟨h1,by omega,by omega⟩
 ·rintro ⟨h1,h2,h3⟩
  refine ⟨h1,?_⟩
  obtain ⟨m,hm⟩ := Nat.dvd_of_mod_eq_zero f2
  have h4 : a.num / 2 ^ free p = m := by
   apply Nat.div_eq_of_lt_le
   ·rw [Nat.mul_comm]; omega
   ·rw [Nat.add_mul,Nat.one_mul,Nat.mul_comm]; omega
  unfold cutA cutN
  rw [show wid a.v6 - p.bits.toNat = free p by unfold free; rw [h1],h4,← h1,Nat.mul_comm,← hm,zq1272 p.ad hp.1.wf]
theorem zq1358 {p : Pf} (cp : chkP p = 0) : over p p = true := zq1356.2 ⟨Int.le_refl _,zq901 cp⟩
theorem zq454 {p q : Pf} (hp : p.In) (hq : q.In) (cp : chkP p = 0) (cq : chkP q = 0) (hv : p.ad.v6 = q.ad.v6) (h1 : q.ad.num ≤ p.ad.num + (2 ^ free p - 1)) (h2 : p.ad.num ≤ q.ad.num + (2 ^ free q - 1)) (hb : p.bits ≤ q.bits) : over p q = true := by
 rw [zq1356]
 refine ⟨hb,(zq902 hp cp hq.1).2 ⟨hv,?_,by have := Nat.two_pow_pos (free p); omega⟩⟩
 obtain ⟨_,f2,_⟩ := zq864 hp cp
 obtain ⟨_,g2,_⟩ := zq864 hq cq
 have hle : free q ≤ free p := by unfold free; rw [hv]; omega
 have e : 2 ^ free p = 2 ^ free q * 2 ^ (free p - free q) := by rw [← Nat.pow_add]; congr 1; omega
 obtain ⟨m,hm⟩ := Nat.dvd_of_mod_eq_zero f2
 obtain ⟨k,hk⟩ := Nat.dvd_of_mod_eq_zero g2
 have hpos := Nat.two_pow_pos (free q)
 have hm' : p.ad.num = 2 ^ free q * (2 ^ (free p - free q) * m) := by rw [hm,e,Nat.mul_assoc]
 rw [hm',hk] at h2 ⊢
 apply Nat.mul_le_mul_left
 apply Nat.le_of_lt_succ
 apply Nat.lt_of_mul_lt_mul_left (a := 2 ^ free q)
 rw [Nat.mul_succ]
 omega
end Go.Ma
namespace Go.Ma
open Go
theorem zq1268 (p : Pf) : ∀ (m bf : List Ls),ofF p bf m = 0 ↔ (∀ x ∈ m,holds p x.ad = true) ∧ (∀ y ∈ bf,∀ x ∈ m,y.who ≠ x.who) ∧ m.Pairwise fun x y => x.who ≠ y.who
 | [],bf => by simp [ofF]
 | x :: r,bf => by
  unfold ofF
  by_cases h1 : holds p x.ad = true
  ·rw [if_neg (by simp [h1])]
   by_cases h2 : bf.any (whoP x.who) = true
   ·rw [if_pos h2]
    constructor
    ·intro h; exact absurd h (by decide)
    ·rintro ⟨_,h3,_⟩
     obtain ⟨y,hy,hq⟩ := List.any_eq_true.1 h2
     exact absurd (by simpa [whoP] using hq) (h3 y hy x (by simp))
   ·rw [if_neg h2,zq1268 p r (bf ++ [x])]
    have h2' : ∀ y ∈ bf,y.who ≠ x.who := fun y hy he => h2 (List.any_eq_true.2 ⟨y,hy,by simp [whoP,he]⟩)
    constructor
    ·rintro ⟨a1,a2,a3⟩
     refine ⟨fun z hz => ?_,fun y hy z hz => ?_,zc45.2 ⟨fun z hz => a2 x (by simp) z hz,a3⟩⟩
     ·rcases zc28.1 hz with rfl | hz
      ·exact h1
      ·exact a1 z hz
     ·rcases zc28.1 hz with rfl | hz
      ·exact h2' y hy
      ·exact a2 y (by simp [hy]) z hz
    ·rintro ⟨a1,a2,a3⟩
     obtain ⟨b1,b2⟩ := zc45.1 a3
     refine ⟨fun z hz => a1 z (by simp [hz]),fun y hy z hz => ?_,b2⟩
     rcases zc36.1 hy with hy | hy
     ·exact a2 y hy z (by simp [hz])
     ·have : y = x := by simpa using hy
      subst this
      exact b1 z hz
  ·rw [if_pos (by simpa using h1)]
   constructor
   ·intro h; exact absurd h (by decide)
   ·rintro ⟨a1,_⟩; exact absurd (a1 x (by simp)) h1
structure Good (p : Pf) (m : List Ls) : Prop where
 ins : lsIn m
 chk : ∀ x ∈ m,chkLs x = 0
 held : ∀ x ∈ m,holds p x.ad = true
 asc : m.Pairwise fun x y => rank x.ad < rank y.ad
 whos : m.Pairwise fun x y => x.who ≠ y.who
theorem zq885 {p : Pf} {kp : List Ad} {l : List Ls} {now : Int} (h : lsIn l) (hc : chkOf p kp l now = 0) : Good p l := by
 obtain ⟨c1,c2,c3⟩ := zq564 hc
 obtain ⟨a1,a2,a3,a4⟩ := zq438 c2
 obtain ⟨o1,_,o3⟩ := (zq1268 p l []).1 c3
 exact ⟨h,a2,o1,(zq464 h).1 a3,o3⟩
theorem Good.live {p : Pf} {l : List Ls} (g : Good p l) (now : Int) : Good p (live l now) :=
 ⟨fun x hx => g.ins x (zq1121 hx).1,fun x hx => g.chk x (zq1121 hx).1,fun x hx => g.held x (zq1121 hx).1,g.asc.filter _,g.whos.filter _⟩
theorem zq462 {lo : Nat} : ∀ {l : List Nat} {hi : Nat},l.Pairwise (· < ·) → (∀ x ∈ l,lo ≤ x ∧ x < hi) → l.length ≤ hi - lo
 | [],_,_,_ => Nat.zero_le _
 | x :: r,hi,h,hb => by
  obtain ⟨h1,h2⟩ := zc45.1 h
  have hx := hb x (by simp)
  have := zq462 (lo := x + 1) (l := r) (hi := hi) h2 fun y hy => ⟨h1 y hy,(hb y (by simp [hy])).2⟩
  simp only [zc21]
  omega
theorem Good.len {p : Pf} {l : List Ls} (g : Good p l) (hp : p.In) (cp : chkP p = 0) (hn : ((wid p.ad.v6 : Nat) : Int) - p.bits ≤ 4) : l.length ≤ 16 := by
 obtain ⟨n1,n2,n3,n4⟩ := zq1229 hp cp hn
 have h := zq462 (lo := rank p.ad) (l := l.map fun x => rank x.ad) (hi := rank p.ad + 16) (by rw [List.pairwise_map]; exact g.asc) fun y hy => by
  obtain ⟨x,hx,rfl⟩ := List.mem_map.1 hy
  obtain ⟨s1,s2,s3⟩ := (zq902 hp cp (g.ins x hx).1).1 (g.held x hx)
  have e : free p = zq861 p := rfl
  rw [e] at s3
  unfold rank
  rw [s1]
  omega
 rw [List.length_map] at h
 omega
theorem Good.ok {p : Pf} {l : List Ls} (g : Good p l) {kp : List Ad} (hp : p.In) (hc : zq568 p kp = 0) {now : Int} (ht : betw now 0 9999 = true) : chkOf p kp l now = 0 := by
 obtain ⟨cp,hn,_⟩ := zq570 hc
 have hlen := g.len hp cp hn
 have ha : allC l now = 0 := by
  unfold allC
  rw [if_neg (by omega),zq560 g.chk,if_neg (fun h => h rfl),(zq464 g.ins).2 g.asc,if_neg (by simp),ht,if_neg (by simp)]
 unfold chkOf
 rw [hc,if_neg (fun h => h rfl),ha,if_neg (fun h => h rfl)]
 exact (zq1268 p l []).2 ⟨g.held,fun y hy => absurd hy (by simp),g.whos⟩
theorem zq1212 {b : List Ls} {k : Nat} {v x : Ls} (h : x ∈ b.set k v) : x ∈ b ∨ x = v := (List.mem_or_eq_of_mem_set h)
theorem zq1197 {α : Type} (f : Ls → α) {b : List Ls} {k : Nat} {e v : Ls} (he : b[k]? = some e) (h : f v = f e) : (b.set k v).map f = b.map f := by
 rw [List.map_set,h]
 have hk := (zc1.1 he).1
 have : f e = (b.map f)[k]'(by simpa using hk) := by
  rw [List.getElem_map,(zc1.1 he).2]
 rw [this,List.set_getElem_self]
theorem zq562 {a : Ad} {who : ByteArray} {u : Int} (ca : chkA a = 0) (hw : whoOk who = true) (hu : betw u 0 10499 = true) : chkLs ⟨a,who,u⟩ = 0 := by
 unfold chkLs
 simp only [ca,hw,hu]
 simp
theorem Good.set {p : Pf} {b : List Ls} (g : Good p b) {k : Nat} {e : Ls} (he : b[k]? = some e) {u : Int} (hu : betw u 0 10499 = true) : Good p (b.set k ⟨e.ad,e.who,u⟩) := by
 have hm := zc5 he
 obtain ⟨u1,u2⟩ := zq485.1 hu
 obtain ⟨e1,e2,e3⟩ := zq561 (g.chk e hm)
 obtain ⟨i1,i2,i3⟩ := g.ins e hm
 refine ⟨fun x hx => ?_,fun x hx => ?_,fun x hx => ?_,?_,?_⟩
 ·rcases zq1212 hx with hx | rfl
  ·exact g.ins x hx
  ·exact ⟨i1,i2,⟨by show (-9223372036854775808 : Int) ≤ u; omega,by show u < 9223372036854775808; omega⟩⟩
 ·rcases zq1212 hx with hx | rfl
  ·exact g.chk x hx
  ·exact zq562 e1 e2 hu
 ·rcases zq1212 hx with hx | rfl
  ·exact g.held x hx
  ·exact g.held e hm
 ·have := g.asc
  rw [← List.pairwise_map (f := fun x : Ls => rank x.ad) (R := (· < ·))] at this ⊢
  rwa [zq1197 (fun x : Ls => rank x.ad) (v := ⟨e.ad,e.who,u⟩) he rfl]
 ·have := g.whos
  rw [← List.pairwise_map (f := fun x : Ls => x.who) (R := (· ≠ ·))] at this ⊢
  rwa [zq1197 (fun x : Ls => x.who) (v := ⟨e.ad,e.who,u⟩) he rfl]
theorem zq1209 {b : List Ls} {x y : Ls} : y ∈ insAt b x ↔ y ∈ b ∨ y = x := by
 unfold insAt
 have h := List.take_append_drop (posF x.ad b) b
 rw [zc36,zc28]
 constructor
 ·rintro (h1 | rfl | h1)
  ·exact .inl (List.mem_of_mem_take h1)
  ·exact .inr rfl
  ·exact .inl (List.mem_of_mem_drop h1)
 ·rintro (h1 | rfl)
  ·rw [← h] at h1
   rcases zc36.1 h1 with h2 | h2
   ·exact .inl h2
   ·exact .inr (.inr h2)
  ·exact .inr (.inl rfl)
theorem Good.put {p : Pf} {b : List Ls} (g : Good p b) {a : Ad} (ha : a.In) (ca : chkA a = 0) (hh : holds p a = true) (hfree : ∀ x ∈ b,x.ad ≠ a) {who : ByteArray} (hs : strIn who) (hw : whoOk who = true) (hno : ∀ x ∈ b,x.who ≠ who) {u : Int} (hu : betw u 0 10499 = true) :
  Good p (insAt b ⟨a,who,u⟩) := by
 obtain ⟨u1,u2⟩ := zq485.1 hu
 have hsplit := List.take_append_drop (posF a b) b
 have hasc := g.asc
 have hwhos := g.whos
 rw [← hsplit,List.pairwise_append] at hasc hwhos
 have hpos := fun (h : Nat) (x : Ls) (hx : b[h]? = some x) => zq1402 ha g.ins ((zq464 g.ins).2 g.asc) hx
 have hlo : ∀ y ∈ b.take (posF a b),rank y.ad < rank a := fun y hy => by
  obtain ⟨i,hi⟩ := List.getElem?_of_mem hy
  have hi2 : i < posF a b := by
   have := (zc1.1 hi).1
   simp at this
   omega
  rw [List.getElem?_take_of_lt hi2] at hi
  exact (zq1348 (g.ins y (zc5 hi)).1 ha).1.1 ((hpos i y hi).2 hi2)
 have hhi : ∀ y ∈ b.drop (posF a b),rank a < rank y.ad := fun y hy => by
  obtain ⟨i,hi⟩ := List.getElem?_of_mem hy
  rw [zc39] at hi
  have hm := zc5 hi
  have h1 : ¬ rank y.ad < rank a := fun h => by
   have := (hpos _ y hi).1 ((zq1348 (g.ins y hm).1 ha).1.2 h)
   omega
  have h2 : rank y.ad ≠ rank a := fun h => hfree y hm (zq1507 (g.ins y hm).1 ha h)
  omega
 refine ⟨fun x hx => ?_,fun x hx => ?_,fun x hx => ?_,?_,?_⟩
 ·rcases zq1209.1 hx with hx | rfl
  ·exact g.ins x hx
  ·exact ⟨ha,hs,⟨by show (-9223372036854775808 : Int) ≤ u; omega,by show u < 9223372036854775808; omega⟩⟩
 ·rcases zq1209.1 hx with hx | rfl
  ·exact g.chk x hx
  ·exact zq562 ca hw hu
 ·rcases zq1209.1 hx with hx | rfl
  ·exact g.held x hx
  ·exact hh
 ·unfold insAt
  rw [List.pairwise_append,zc45]
  refine ⟨hasc.1,⟨hhi,hasc.2.1⟩,fun y hy z hz => ?_⟩
  rcases zc28.1 hz with rfl | hz
  ·exact hlo y hy
  ·exact hasc.2.2 y hy z hz
 ·unfold insAt
  rw [List.pairwise_append,zc45]
  refine ⟨hwhos.1,⟨fun z hz he => hno z (List.mem_of_mem_drop hz) he.symm,hwhos.2.1⟩,fun y hy z hz => ?_⟩
  rcases zc28.1 hz with rfl | hz
  ·exact hno y (List.mem_of_mem_take hy)
  ·exact hwhos.2.2 y hy z hz
theorem zq1847 {m : List Ls} (h : m.Pairwise fun x y => x.who ≠ y.who) {x : Ls} (hx : x ∈ m) : ∃ k,zq816 (whoP x.who) m = some k ∧ m[k]? = some x := by
 cases hf : zq816 (whoP x.who) m with
 | none =>
  have := zq820 hf x hx
  simp [whoP] at this
 | some k =>
  obtain ⟨y,hy,hq,_⟩ := zq821 hf
  refine ⟨k,rfl,?_⟩
  have hyx : y.who = x.who := by simpa [whoP] using hq
  obtain ⟨i,hi⟩ := List.getElem?_of_mem hx
  obtain ⟨k1,k2⟩ := zc1.1 hy
  obtain ⟨i1,i2⟩ := zc1.1 hi
  have hp := List.pairwise_iff_getElem.1 h
  rcases Nat.lt_trichotomy k i with h1 | h1 | h1
  ·exact absurd (by rw [k2,i2]; exact hyx) (hp k i k1 i1 h1)
  ·subst h1; exact hi
  ·exact absurd (by rw [k2,i2]; exact hyx.symm) (hp i k i1 k1 h1)
structure Given (p : Pf) (kp : List Ad) (l : List Ls) (who : ByteArray) (now u : Int) (m : List Ls) (a : Ad) : Prop where
 good : Good p m
 alive : ∀ x ∈ m,now ≤ x.upto
 mine : (⟨a,who,u⟩ : Ls) ∈ m
 others : ∀ x ∈ l,now ≤ x.upto → x.who ≠ who → x ∈ m
 fresh : (∀ x ∈ l,now ≤ x.upto → x.who ≠ who) → ∀ x ∈ kp,x ≠ a
theorem zq876 {p : Pf} (hp : p.In) {kp : List Ad} {l : List Ls} (hl : lsIn l) {who : ByteArray} (hw : strIn who) {now ttl : Int} {m : List Ls} {a : Ad} (h : zq886 p kp l who now ttl = (m,a,0,())) :
  chkOf p kp l now = 0 ∧ whoOk who = true ∧ Given p kp l who now (now + ttl) m a := by
 unfold zq886 at h
 split at h
 ·rename_i hc
  exact absurd (congrArg (fun y => y.2.2.1) h) hc
 rename_i hc
 have hc : chkOf p kp l now = 0 := zc50.1 hc
 split at h
 ·exact absurd (show (1 : Int) = 0 from congrArg (fun y => y.2.2.1) h) (by decide)
 rename_i hwo
 have hwo : whoOk who = true := by simpa using hwo
 split at h
 ·exact absurd (show (3 : Int) = 0 from congrArg (fun y => y.2.2.1) h) (by decide)
 rename_i ht
 have ht : betw ttl 1 500 = true := by simpa using ht
 split at h
 ·exact absurd (show (8 : Int) = 0 from congrArg (fun y => y.2.2.1) h) (by decide)
 rename_i hr
 obtain ⟨c1,c2,c3⟩ := zq564 hc
 obtain ⟨cp,hn,_⟩ := zq570 c1
 obtain ⟨t1,t2⟩ := zq485.1 ht
 obtain ⟨v1,v2⟩ := zq485.1 (zq438 c2).2.2.2
 have hu : betw (now + ttl) 0 10499 = true := zq485.2 ⟨by omega,by omega⟩
 have g := (zq885 hl hc).live now
 have hlm : ∀ x ∈ l,now ≤ x.upto → x ∈ live l now := fun x hx h => List.mem_filter.2 ⟨hx,by simp [liveP,h]⟩
 have hm : (rawOf p kp (live l now) who (now + ttl)).1 = m := congrArg (fun y => y.1) h
 have ha : (rawOf p kp (live l now) who (now + ttl)).2.1 = a := congrArg (fun y => y.2.1) h
 clear h
 refine ⟨hc,hwo,?_⟩
 unfold rawOf at hm ha hr
 cases hf : zq816 (whoP who) (live l now) with
 | some k =>
  rw [hf] at hm ha hr
  obtain ⟨e,he,hq,_⟩ := zq821 hf
  have hew : e.who = who := by simpa [whoP] using hq
  simp only [zq968,he] at hm ha
  subst hm ha
  have hk := (zc1.1 he).1
  refine ⟨g.set he hu,fun x hx => ?_,?_,fun x hx hx2 hx3 => ?_,fun hno => ?_⟩
  ·rcases zq1212 hx with hx | rfl
   ·exact (zq1121 hx).2
   ·show now ≤ now + ttl
    omega
  ·rw [← hew]
   exact zc5 (List.getElem?_set_self (by exact hk))
  ·obtain ⟨i,hi⟩ := List.getElem?_of_mem (hlm x hx hx2)
   have hik : k ≠ i := fun h => by
    subst h
    rw [he] at hi
    injection hi with hi
    exact hx3 (by rw [← hi,hew])
   exact zc5 ((List.getElem?_set_ne hik).trans hi)
  ·have hm := zq1121 (zc5 he)
   exact absurd hew (hno e hm.1 hm.2)
 | none =>
  rw [hf] at hm ha hr
  cases hfr : zq862 p kp (live l now) with
  | none =>
   rw [hfr] at hr
   exact absurd rfl hr
  | some b =>
   rw [hfr] at hm ha
   simp only [zq1471] at hm ha
   subst hm ha
   obtain ⟨⟨i,hi,hbi⟩,htk⟩ := zq863 hfr
   obtain ⟨n1,n2,n3,n4⟩ := zq1229 hp cp hn
   obtain ⟨b1,b2⟩ := zq397 n4 hi
   unfold zq1812 at htk
   simp only [Bool.or_eq_false_iff,List.any_eq_false,decide_eq_true_eq] at htk
   have hno : ∀ x ∈ live l now,x.who ≠ who := fun x hx he => by
    have := zq820 hf x hx
    simp [whoP,he] at this
   refine ⟨g.put (by rw [hbi]; exact b1) (by rw [hbi]; exact b2) (by rw [hbi,zq899 hp cp hn]; exact decide_eq_true hi) htk.2 hw hwo hno hu,fun x hx => ?_,zq1209.2 (.inr rfl),fun x hx hx2 hx3 => zq1209.2 (.inl (hlm x hx hx2)),fun _ x hx he => htk.1 x hx he.symm⟩
   rcases zq1209.1 hx with hx | rfl
   ·exact (zq1121 hx).2
   ·show now ≤ now + ttl
    omega
end Go.Ma
namespace Go.Ma
open Go
theorem zq752 (a b : En) : eqEn a b = decide (a = b) := by
 have e : (a = b) ↔ (a.num = b.num ∧ a.epoch = b.epoch ∧ a.op.kind = b.op.kind ∧ a.op.pf.ad.v6 = b.op.pf.ad.v6 ∧ a.op.pf.ad.hi = b.op.pf.ad.hi ∧ a.op.pf.ad.lo = b.op.pf.ad.lo ∧ a.op.pf.bits = b.op.pf.bits ∧
   a.op.ad.v6 = b.op.ad.v6 ∧ a.op.ad.hi = b.op.ad.hi ∧ a.op.ad.lo = b.op.ad.lo ∧ a.op.who = b.op.who ∧ a.op.of_ = b.op.of_ ∧ a.op.n = b.op.n) := by
  cases a with | mk n1 e1 o1 => cases b with | mk n2 e2 o2 =>
  cases o1 with | mk k1 p1 a1 w1 f1 m1 => cases o2 with | mk k2 p2 a2 w2 f2 m2 =>
  cases p1 with | mk pa1 pb1 => cases p2 with | mk pa2 pb2 =>
  cases pa1; cases pa2; cases a1; cases a2
  simp only [En.mk.injEq,Oq.mk.injEq,Pf.mk.injEq,Ad.mk.injEq,and_assoc]
 rw [Bool.eq_iff_iff,decide_eq_true_iff,e]
 unfold eqEn eqOq
 simp [beqB,acmp,zq1795]
theorem zq1784 (x a b : Int) : zq1786 x a b = some (betw x a b,()) := by
 unfold zq1786
 rw [br_ss,zq487,zq484]
def zq761 (o : Oq) : Bool :=
 bif (bif (bif (bif (bif !decide (o.kind = 1) then !(eqPf o.pf ⟨⟨false,0,0⟩,0⟩) else false) then true else (bif !decide (o.kind = 2) then !(eqAd o.ad ⟨false,0,0⟩) else false))
  then true else (bif !decide (o.kind = 3) then (bif !decide (o.kind = 4) then zq1794 .neq o.who ByteArray.empty else false) else false))
  then true else (bif !decide (o.kind = 3) then !decide (o.of_ = 0) else false))
  then true else (bif !decide (o.kind = 3) then (bif !decide (o.kind = 5) then !decide (o.n = 0) else false) else false)
def formO (o : Oq) : Int :=
 if betw o.kind 1 5 = false then 7 else if zq761 o = true then 1
 else if o.kind = 1 then (if chkP o.pf ≠ 0 then chkP o.pf else if ((wid o.pf.ad.v6 : Nat) : Int) - o.pf.bits ≤ 4 then 0 else 2)
 else if o.kind = 2 then chkA o.ad
 else if o.kind < 5 ∧ whoOk o.who = false then 1
 else if o.kind = 3 ∧ (betw o.of_ 0 2 = false ∨ betw o.n 1 500 = false) then 3
 else if o.kind = 5 ∧ betw o.n 0 9999 = false then 3 else 0
theorem zq1760 (o : Oq) : zq1762 o = some (zq761 o,()) := by
 unfold zq1762
 simp only [br_ss,zq487]
 rfl
theorem zq1699 {o : Oq} (h : o.In) : zq1701 o = some (formO o,()) := by
 obtain ⟨_,hp,ha,hw,_,_⟩ := h
 unfold zq1701 formO
 rw [zq1784,zq487]
 cases hk : betw o.kind 1 5
 ·rfl
 obtain ⟨hk1,hk2⟩ := zq485.1 hk
 simp only [zc10,zq515,Bool.true_eq_false,if_false]
 rw [zq1760,zq487]
 cases zq761 o
 rotate_left
 ·rfl
 simp only [zq515,zc16,if_false]
 by_cases k1 : o.kind = 1
 ·rw [decide_eq_true k1,zq517,if_pos k1,zq1412 hp,zq487]
  by_cases hc : chkP o.pf = 0
  ·simp only [hc,decide_true,zc10,zq515,ne_eq,not_true,if_false]
   rw [zq1059 hc,zq487]
   by_cases hn : ((wid o.pf.ad.v6 : Nat) : Int) - o.pf.bits ≤ 4 <;> simp [hn,zq517,zq515]
  ·simp [hc,zq517]
 rw [decide_eq_false k1,zq515,if_neg k1]
 by_cases k2 : o.kind = 2
 ·rw [decide_eq_true k2,zq517,if_pos k2,zq407,zq487]
 rw [decide_eq_false k2,zq515,if_neg k2]
 have who : ∀ (X : Bool → Option (Int × Unit)),((zq1099 o.who).bind fun y => X y.1) = X (whoOk o.who) := fun X => by rw [zq1097 hw,zq487]
 by_cases k3 : o.kind = 3
 ·simp only [k3,decide_true,zq517,zq1097 hw,zq487,zq1784,br_ss]
  cases whoOk o.who <;> cases betw o.of_ 0 2 <;> cases betw o.n 1 500 <;> simp [zq517,zq515]
 ·simp only [k3,decide_false,zq515]
  by_cases k4 : o.kind = 4
  ·simp only [k4,zq1097 hw,zq487,zq1784,br_ss]
   cases whoOk o.who <;> simp [zq517,zq515]
  ·have k5 : o.kind = 5 := by omega
   simp only [k5,zq1784,zq487]
   cases betw o.n 0 9999 <;> simp [zq517,zq515]
theorem zq1172 (x : Int) : zq1174 x = some (betw x 1 999,()) := by
 unfold zq1174
 rw [br_ss,zq487,zq484]
def zq552 : List En → Int → Int → Int
 | [],_,_ => 0
 | e :: r,i,p => if e.num ≠ i + 1 then 4 else if betw e.epoch 1 999 = false then 3 else if e.epoch < p then 4 else if formO e.op ≠ 0 then formO e.op else zq552 r (i + 1) e.epoch
def zq551 (l : List En) : Int := if l.length > 30 then 2 else zq552 l 0 0
def prevE (l : List En) : Nat → Int
 | 0 => 0
 | i + 1 => match l[i]? with | some e => e.epoch | none => 0
def logIn (l : List En) : Prop := ∀ e ∈ l,e.In
def zq1122 (l : List En) (r : Int) : (((Int × Unit) × Unit) × (List En × Unit)) ⊕ ((Unit) × (List En × Unit)) := if r = 0 then Sum.inr ((),l,()) else Sum.inl (((r,()),()),l,())
theorem zq1123 {l : List En} {r : Int} (h : r ≠ 0) : some (zq1122 l r) = some (Sum.inl (((r,()),()),l,())) := by rw [zq1122,if_neg h]
theorem zq1142 {l : List En} (h : logIn l) : zq1144 l = some (zq551 l,()) := by
 unfold zq1144 zq551
 by_cases hlen : l.length > 30
 ·rw [if_pos hlen,decide_eq_true (show lenL l > 30 by unfold lenL; omega),zq517]
 rw [if_neg hlen,decide_eq_false (show ¬ lenL l > 30 by unfold lenL; omega),zq515]
 have hl : loopN zq1136 FUEL (((),(),(lenL l,()),((((0 : Nat) : Int)),()),()),l,()) = some (zq1122 l (zq552 (l.drop 0) 0 (prevE l 0))) := by
  refine zq1179 (fun i => (((((),(),(lenL l,()),((i : Int),()),()),l,()) : (((Unit) × (Unit) × (Int × Unit) × (Int × Unit) × Unit) × (List En × Unit))))) l.length (fun i => some (zq1122 l (zq552 (l.drop i) (i : Int) (prevE l i)))) (fun rec i hi hr => ?_) (fun rec => ?_) FUEL 0 (Nat.zero_le _) (zq865 (by omega))
  ·obtain ⟨e,he⟩ : ∃ e,l[i]? = some e := ⟨_,zc0 hi⟩
   simp only [zq1136]
   rw [decide_eq_true (show (i : Int) < lenL l by unfold lenL; omega),zq517,zq1560 (zq910 (by omega) (by unfold lenL; omega)),zq871 he,zq487]
   rw [zq1560 (zq904 (by omega) (by omega)),zq728 he,zq552]
   by_cases hn : e.num = (i : Int) + 1
   rotate_left
   ·rw [if_pos hn,decide_eq_false hn,zc19,zq517]
    rfl
   rw [if_neg (fun h0 => h0 hn),decide_eq_true hn,zc10,zq515,zq1172,zq487]
   cases hb : betw e.epoch 1 999
   ·rfl
   simp only [zc10,zq515,Bool.true_eq_false,if_false]
   have hc : (br (decide ((i : Int) > 0)) (req (i64ok ((i : Int) - 1)) (req (zq908 ((i : Int) - 1) (lenL l)) (req (zq908 ((i : Int) - 1) (lenL l)) ((geti l ((i : Int) - 1)).bind fun p3 => some (decide (e.epoch < p3.epoch)))))) (some false)) = some (decide (e.epoch < prevE l i)) := by
    cases i with
    | zero =>
     have := zq485.1 hb
     rw [decide_eq_false (by omega),zq515,decide_eq_false (show ¬ e.epoch < prevE l 0 by simp only [prevE]; omega)]
    | succ k =>
     obtain ⟨e',he'⟩ : ∃ e,l[k]? = some e := ⟨_,zc0 (by omega)⟩
     rw [decide_eq_true (by omega),zq517,show (((k + 1 : Nat) : Int) - 1) = (k : Int) by omega,zq1560 (zq904 (by omega) (by omega)),zq1560 (zq910 (by omega) (by unfold lenL; omega)),zq1560 (zq910 (by omega) (by unfold lenL; omega)),zq871 he',zq487]
     simp only [prevE,he']
   rw [hc,zq487]
   by_cases hp : e.epoch < prevE l i
   ·rw [if_pos hp,decide_eq_true hp,zq517]
    rfl
   rw [if_neg hp,decide_eq_false hp,zq515,zq1699 (h e (zc5 he)).2.2,zq487]
   by_cases hf : formO e.op = 0
   rotate_left
   ·rw [if_pos hf,decide_eq_false hf,zc19,zq517,zq1123 hf]
   rw [if_neg (fun h0 => h0 hf),decide_eq_true hf,zc10,zq515,show ((i : Int) + 1) = ((i + 1 : Nat) : Int) by omega,zq1560 (zq904 (by omega) (by omega)),hr]
   rw [show prevE l (i + 1) = e.epoch by simp only [prevE,he]]
  ·simp only [zq1136]
   rw [decide_eq_false (show ¬ (l.length : Int) < lenL l by unfold lenL; omega),zq515,zc18 (zc47 _)]
   rfl
 rw [show (((0 : Nat) : Int)) = 0 from rfl,List.drop_zero] at hl
 rw [hl,zq487]
 show sumC (zq1122 l (zq552 l 0 0)) _ _ = _
 unfold zq1122
 by_cases h0 : zq552 l 0 0 = 0
 ·rw [if_pos h0,h0]; rfl
 ·rw [if_neg h0]; rfl
end Go.Ma
namespace Go.Ma
open Go
theorem zq581 {l : List En} (h : l.length ≤ 274877906944) : zq1648 l = some (l,()) := by
 unfold zq1648
 rw [zq1560 (zq1574 (by simp [lenL]) (zq1107 l) (by unfold lenL; simp; omega)),List.nil_append]
 cases l with
 | nil => exact zq513 _
 | cons a r => rfl
theorem zq808 (x a b : Int) : zq810 x a b = some (betw x a b,()) := by
 unfold zq810
 rw [br_ss,zq487,zq484]
def zq549 (ep h u : Int) (l : List En) : Int :=
 if betw ep 0 999 = false ∨ betw h 0 2 = false ∨ betw u 0 10009 = false then 3
 else if (h = 0 ∧ (ep ≠ 0 ∨ u ≠ 0)) ∨ (h ≠ 0 ∧ ep = 0) then 4
 else if zq551 l ≠ 0 then zq551 l else if l.any (fun e => decide (ep < e.epoch)) = true then 4 else 0
abbrev DK := List En × (Int × Int × Int × Unit) × Unit
def goE (ep : Int) (d : DK) : List En → Int → (((Int × Unit) × Unit) × DK) ⊕ (Unit × DK)
 | [],_ => Sum.inr ((),d)
 | e :: r,i => if e.epoch > ep then Sum.inl (((i,()),()),d) else goE ep d r (i + 1)
theorem zq881 (ep : Int) (d : DK) : ∀ (l : List En) (i : Int),0 ≤ i → sumC (goE ep d l i) (fun y8 => br (decide (y8.1.1.1 ≥ 0)) (some ((4 : Int),())) (some (0,()))) (fun _ => some (0,())) = some (if l.any (fun e => decide (ep < e.epoch)) = true then 4 else 0,())
 | [],_,_ => rfl
 | e :: r,i,hi => by
  unfold goE
  by_cases h : e.epoch > ep
  ·rw [if_pos h]
   have h' : ep < e.epoch := h
   simp only [sumC,List.any_cons,decide_eq_true h',Bool.true_or,if_true]
   rw [decide_eq_true (show i ≥ 0 from hi),zq517]
  ·rw [if_neg h,zq881 ep d r (i + 1) (by omega)]
   have h' : ¬ ep < e.epoch := h
   simp only [List.any_cons,decide_eq_false h',Bool.false_or]
theorem zq804 {ep h u : Int} {l : List En} (hl : l.length < 9223372036854775808) :
  loopN zq772 FUEL (((),(),(lenL l,()),(0,()),()),(l,(ep,h,u,()),())) = some (goE ep (l,(ep,h,u,()),()) l 0) := by
 have := zq1179 (step := zq772) (fun i => (((),(),(lenL l,()),((i : Int),()),()),(l,(ep,h,u,()),()))) l.length (fun i => some (goE ep (l,(ep,h,u,()),()) (l.drop i) i)) (fun rec i hi hr => ?_) (fun rec => ?_) FUEL 0 (Nat.zero_le _) (zq865 (by omega))
 ·exact this
 ·obtain ⟨e,he⟩ : ∃ e,l[i]? = some e := ⟨_,zc0 hi⟩
  simp only [zq772]
  rw [decide_eq_true (show (i : Int) < lenL l by unfold lenL; omega),zq517,zq1560 (zq910 (by omega) (by unfold lenL; omega)),zq871 he,zq487,zq728 he]
  simp only [zq766,zq487,goE]
  by_cases hp : e.epoch > ep
  ·rw [if_pos hp,decide_eq_true hp,zq517]
  ·rw [if_neg hp,decide_eq_false hp,zq515,show ((i : Int) + 1) = ((i + 1 : Nat) : Int) by omega,zq1560 (zq904 (by omega) (by omega)),hr]
 ·simp only [zq772]
  rw [decide_eq_false (show ¬ (l.length : Int) < lenL l by unfold lenL; omega),zq515,zc18 (zc47 _)]
  rfl
theorem zq555 {l : List En} (h : zq551 l = 0) : l.length ≤ 30 := by
 unfold zq551 at h
 split at h
 ·cases h
 ·omega
theorem zq770 (ep h u : Int) {l : List En} (hl : logIn l) : zq782 ep h u l = some (zq549 ep h u l,()) := by
 unfold zq782 zq549
 simp only [zq808,zq487,br_sb]
 cases h1 : betw ep 0 999 <;> cases h2 : betw h 0 2 <;> cases h3 : betw u 0 10009 <;> simp only [zc19,zc10,cond_true,cond_false,zq517,zq515,true_or,or_true,if_true]
 simp only [Bool.true_eq_false,or_self,if_false]
 have tail : ((zq1144 l).bind fun y6 => br (!decide (y6.1 = 0)) (some (y6.1,())) ((loopN zq772 FUEL (((),(),(lenL l,()),(0,()),()),(l,(ep,h,u,()),()))).bind fun y7 =>
   sumC y7 (fun y8 => br (decide (y8.1.1.1 ≥ 0)) (some ((4 : Int),())) (some (0,()))) (fun y9 => some (0,())))) = some (if zq551 l ≠ 0 then zq551 l else if l.any (fun e => decide (ep < e.epoch)) = true then 4 else 0,()) := by
  rw [zq1142 hl,zq487]
  by_cases h0 : zq551 l = 0
  ·rw [if_neg (fun h => h h0),decide_eq_true (show (zq551 l,()).1 = 0 from h0),zc10,zq515,zq804 (by have := zq555 h0; omega),zq487,zq881 _ _ _ _ (by omega)]
  ·rw [if_pos h0,decide_eq_false (show ¬ (zq551 l,()).1 = 0 from h0),zc19,zq517]
 by_cases k : h = 0
 ·by_cases k1 : ep = 0
  ·by_cases k2 : u = 0
   ·simp only [k,k1,k2,decide_true,cond_true,zc10,zq517,zq515,cond_false] at tail ⊢
    rw [if_neg (by simp)]
    exact tail
   ·simp [k,k1,k2,zq517,zq515]
  ·simp [k,k1,zq517,zq515]
 ·by_cases k1 : ep = 0
  ·simp [k,k1,zq517,zq515]
  ·simp only [k,k1,decide_false,cond_true,zc19,zq517,zq515,cond_false] at tail ⊢
   rw [if_neg (by simp)]
   exact tail
abbrev Dk := Int × Int × Int × (List En) × Unit
def noDk : Dk := (0,0,0,[],())
def overL (h u now : Int) : Bool := decide (h = 0) || decide (u < now)
def acqOf (ep h u : Int) (l : List En) (who now : Int) : Dk × Int × Unit :=
 if overL h u now = false ∧ h ≠ who then (noDk,4,()) else if overL h u now = true ∧ ep = 999 then (noDk,2,()) else ((if overL h u now = true then ep + 1 else ep,who,now + 10,l,()),0,())
theorem zq795 (ep h u : Int) {l : List En} (hl : l.length ≤ 274877906944) : zq797 ep h u l = some ((ep,h,u,l,()),()) := by
 unfold zq797
 rw [zq581 hl,zq487]
theorem zq789 (ep h u : Int) {l : List En} (hl : l.length ≤ 274877906944) (who now : Int) (h1 : 0 ≤ ep) (h2 : ep ≤ 999) (h3 : 0 ≤ now) (h4 : now ≤ 9999) : zq791 ep h u l who now = some (acqOf ep h u l who now) := by
 unfold zq791 acqOf
 rw [zq795 ep h u hl,zq487,br_ss,zq487]
 have e : (bif decide (h = 0) then true else decide (u < now)) = overL h u now := by unfold overL; cases decide (h = 0) <;> rfl
 simp only [e,br_sb,zq487]
 have i1 : i64ok (ep + 1) = true := zq904 (by omega) (by omega)
 have i2 : i64ok (now + 10) = true := zq904 (by omega) (by omega)
 simp only [i1,i2,zq1562]
 cases overL h u now
 ·by_cases k : h = who <;> simp [k,zq517,zq515,noDk]
 ·by_cases k : ep = 999 <;> simp [k,zq517,zq515,noDk]
theorem zq550 {ep h u : Int} {l : List En} (hc : zq549 ep h u l = 0) : (0 ≤ ep ∧ ep ≤ 999) ∧ (0 ≤ h ∧ h ≤ 2) ∧ (0 ≤ u ∧ u ≤ 10009) ∧ ((h = 0 ∧ ep = 0 ∧ u = 0) ∨ (h ≠ 0 ∧ ep ≠ 0)) ∧ zq551 l = 0 ∧ l.any (fun e => decide (ep < e.epoch)) = false := by
 unfold zq549 at hc
 split at hc
 ·cases hc
 rename_i h1
 split at hc
 ·cases hc
 rename_i h2
 split at hc
 ·rename_i h3; exact absurd hc h3
 rename_i h3
 split at hc
 ·cases hc
 rename_i h4
 simp only [not_or,Bool.not_eq_false,zq485] at h1
 refine ⟨h1.1,h1.2.1,h1.2.2,?_,zc50.1 h3,by simpa using h4⟩
 omega
def zq1224 (l : List En) (ep : Int) (o : Oq) : (List En) × Int × Unit :=
 if betw ep 1 999 = false then ([],3,()) else if ep < prevE l l.length then ([],4,()) else if formO o ≠ 0 then ([],formO o,()) else if l.length = 30 then ([],2,()) else (l ++ [⟨lenL l + 1,ep,o⟩],0,())
theorem zq982 {l : List En} {ep : Int} (hl : l.length ≤ 30) (he : 0 ≤ ep) : (br (decide (lenL l > 0)) (req (i64ok ((lenL l) - 1)) <| req (zq908 ((lenL l) - 1) (lenL l)) <| req (zq908 ((lenL l) - 1) (lenL l)) <| (geti l ((lenL l) - 1)).bind fun p2 => some (decide (ep < p2.epoch))) (some false)) = some (decide (ep < prevE l l.length)) := by
 cases hn : l.length with
 | zero =>
  rw [decide_eq_false (show ¬ lenL l > 0 by unfold lenL; omega),zq515,decide_eq_false (show ¬ ep < prevE l 0 by simp only [prevE]; omega)]
 | succ k =>
  obtain ⟨e,he⟩ : ∃ e,l[k]? = some e := ⟨_,zc0 (by omega)⟩
  have e1 : lenL l - 1 = (k : Int) := by unfold lenL; omega
  rw [decide_eq_true (show lenL l > 0 by unfold lenL; omega),zq517,e1,zq1560 (zq904 (by omega) (by omega)),zq1560 (zq910 (by omega) (by unfold lenL; omega)),zq1560 (zq910 (by omega) (by unfold lenL; omega)),zq871 he,zq487]
  simp only [prevE,he]
theorem zq1165 {l : List En} (hl : l.length ≤ 30) (ep : Int) {o : Oq} (ho : o.In) : zq1167 l ep o = some (zq1224 l ep o) := by
 unfold zq1167 zq1224
 rw [zq1172,zq487]
 cases h1 : betw ep 1 999
 ·rfl
 obtain ⟨h2,h3⟩ := zq485.1 h1
 simp only [zc10,zq515,Bool.true_eq_false,if_false]
 rw [zq982 hl (by omega),zq487]
 by_cases h4 : ep < prevE l l.length
 ·rw [decide_eq_true h4,zq517,if_pos h4]
 rw [decide_eq_false h4,zq515,if_neg h4,zq1699 ho,zq487]
 by_cases h5 : formO o = 0
 ·rw [decide_eq_true (show (formO o,()).1 = 0 from h5),zc10,zq515,if_neg (fun h => h h5)]
  by_cases h6 : l.length = 30
  ·rw [decide_eq_true (show lenL l = 30 by unfold lenL; omega),zq517,if_pos h6]
  ·rw [decide_eq_false (show ¬ lenL l = 30 by unfold lenL; omega),zq515,if_neg h6,zq730,zq581 (by omega),zq487,zq1560 (zq904 (by unfold lenL; omega) (by unfold lenL; omega))]
   rw [zq1560 (zq1574 (zq1107 _) (zq1107 _) (by simp only [lenL,zc21,zc32]; omega))]
 ·rw [decide_eq_false (show ¬ (formO o,()).1 = 0 from h5),zc19,zq517,if_pos h5]
def putOf (ep h u : Int) (l : List En) (e : Int) (o : Oq) : Dk × Int × Unit :=
 if e = 0 ∨ e ≠ ep then (noDk,4,()) else if (zq1224 l e o).2.1 ≠ 0 then (noDk,(zq1224 l e o).2.1,()) else ((ep,h,u,(zq1224 l e o).1,()),0,())
theorem zq801 (ep h u : Int) {l : List En} (hl : l.length ≤ 30) (e : Int) {o : Oq} (ho : o.In) : zq803 ep h u l e o = some (putOf ep h u l e o) := by
 unfold zq803 putOf
 rw [br_sb,zq487,zq1165 hl e ho,zq487]
 by_cases h1 : e = 0
 ·simp [h1,zq517,noDk]
 by_cases h2 : e = ep
 ·rw [if_neg (by simp [h1,h2]; omega)]
  simp only [decide_eq_false h1,decide_eq_true h2,cond_false,zc10,zq515]
  by_cases h3 : (zq1224 l e o).2.1 = 0 <;> simp [h3,zq517,zq515,noDk]
 ·simp [h1,h2,zq517,noDk]
def op1 : Oq := ⟨1,⟨⟨false,0,8⟩,30⟩,⟨false,0,0⟩,ByteArray.empty,0,0⟩
def op2 : Oq := ⟨2,⟨⟨false,0,0⟩,0⟩,⟨false,0,8⟩,ByteArray.empty,0,0⟩
def op3 : Oq := ⟨3,⟨⟨false,0,0⟩,0⟩,⟨false,0,0⟩,⟨#[120]⟩,0,10⟩
theorem z_in : (⟨false,0,0⟩ : Ad).In := by constructor <;> constructor <;> decide
theorem op_in : op1.In ∧ op2.In ∧ op3.In := by
 have a8 : (⟨false,0,8⟩ : Ad).In := by constructor <;> constructor <;> decide
 have e0 : strIn ByteArray.empty := by unfold strIn; exact Nat.zero_le _
 have e1 : strIn ⟨#[120]⟩ := by unfold strIn maxLen; decide
 have n : ∀ x : Int,0 ≤ x → x < 100 → i64In x := fun x h h' => ⟨by omega,by omega⟩
 exact ⟨⟨n _ (by decide) (by decide),⟨a8,n _ (by decide) (by decide)⟩,z_in,e0,n _ (by decide) (by decide),n _ (by decide) (by decide)⟩,
  ⟨n _ (by decide) (by decide),⟨z_in,n _ (by decide) (by decide)⟩,a8,e0,n _ (by decide) (by decide),n _ (by decide) (by decide)⟩,
  ⟨n _ (by decide) (by decide),⟨z_in,n _ (by decide) (by decide)⟩,z_in,e1,n _ (by decide) (by decide),n _ (by decide) (by decide)⟩⟩
theorem zq449 {l : List En} {a b : Int} (h : l.any (fun e => decide (a < e.epoch)) = false) (hab : a ≤ b) : l.any (fun e => decide (b < e.epoch)) = false := by
 rw [List.any_eq_false] at h ⊢
 intro e he
 have := h e he
 simp only [decide_eq_true_eq] at this ⊢
 omega
theorem zq379 {ep h u : Int} {l : List En} {who now : Int} (hc : zq549 ep h u l = 0) (hw : 1 ≤ who ∧ who ≤ 2) (hn : 0 ≤ now ∧ now ≤ 9999) (ho : overL h u now = true ∨ h = who) (he : overL h u now = true → ep ≠ 999) :
  zq549 (if overL h u now = true then ep + 1 else ep) who (now + 10) l = 0 := by
 obtain ⟨h1,h2,h3,h4,h5,h6⟩ := zq550 hc
 have key : ∀ e : Int,1 ≤ e → e ≤ 999 → ep ≤ e → zq549 e who (now + 10) l = 0 := by
  intro e g1 g2 g3
  unfold zq549
  rw [if_neg,if_neg,if_neg (fun h => h h5),if_neg (by rw [zq449 h6 g3]; simp)]
  ·rintro (⟨g,_⟩ | ⟨_,g⟩) <;> omega
  ·simp only [not_or,Bool.not_eq_false,zq485]
   omega
 cases hov : overL h u now
 ·simp only [zc16,if_false]
  have hh : h = who := by
   rcases ho with ho | ho
   ·rw [hov] at ho; cases ho
   ·exact ho
  refine key ep ?_ h1.2 (Int.le_refl _)
  rcases h4 with ⟨g,_,_⟩ | ⟨_,g⟩
  ·omega
  ·omega
 ·simp only [if_true]
  have := he hov
  exact key (ep + 1) (by omega) (by omega) (by omega)
end Go.Ma
namespace Go.Ma
open Go
theorem zq97 {o : Oq} (h : o.In) : zq99 o = some (formO o,()) := by
 obtain ⟨_,hp,ha,hw,_,_⟩ := h
 unfold zq99 formO
 rw [zq307,zq487]
 cases hk : betw o.kind 1 5
 ·rfl
 obtain ⟨hk1,hk2⟩ := zq485.1 hk
 simp only [zc10,zq515,Bool.true_eq_false,if_false,br_sb,zq487]
 have e : ∀ a b : Option (Int × Unit),br (bif (bif (bif (bif (bif !decide (o.kind = 1) then !(eqPf o.pf ⟨⟨false,0,0⟩,0⟩) else false) then true else (bif !decide (o.kind = 2) then !(eqAd o.ad ⟨false,0,0⟩) else false))
  then true else (bif !decide (o.kind = 3) then (bif !decide (o.kind = 4) then zq1794 .neq o.who ByteArray.empty else false) else false))
  then true else (bif !decide (o.kind = 3) then !decide (o.of_ = 0) else false))
  then true else (bif !decide (o.kind = 3) then (bif !decide (o.kind = 5) then !decide (o.n = 0) else false) else false)) a b = br (zq761 o) a b := fun _ _ => rfl
 rw [e]
 cases zq761 o
 rotate_left
 ·rfl
 simp only [zq515,zc16,if_false]
 by_cases k1 : o.kind = 1
 ·rw [decide_eq_true k1,zq517,if_pos k1,zq106 hp,zq487]
  by_cases hc : chkP o.pf = 0
  ·simp only [hc,decide_true,zq517,ne_eq,not_true,if_false,zq190 hc,zq487]
   by_cases hn : ((wid o.pf.ad.v6 : Nat) : Int) - o.pf.bits ≤ 4 <;> simp [hn,zq517,zq515]
  ·simp only [hc,decide_false,zq515,zq487,ne_eq,not_false_eq_true,if_true]
 rw [decide_eq_false k1,zq515,if_neg k1]
 by_cases k2 : o.kind = 2
 ·rw [decide_eq_true k2,zq517,if_pos k2,zq55 ha,zq487]
 rw [decide_eq_false k2,zq515,if_neg k2]
 by_cases k3 : o.kind = 3
 ·simp only [k3,decide_true,zq517,zq199 hw,zq487,zq307,br_sb,show decide ((3 : Int) < 5) = true from rfl,show decide ((3 : Int) = 5) = false from rfl,zq515]
  cases whoOk o.who <;> cases betw o.of_ 0 2 <;> cases betw o.n 1 500 <;> simp [zq517,zq515]
 ·by_cases k4 : o.kind = 4
  ·simp only [k4,zq199 hw,zq487,show decide ((4 : Int) < 5) = true from rfl,show decide ((4 : Int) = 5) = false from rfl,show decide ((4 : Int) = 3) = false from rfl,zq515,zq517]
   cases whoOk o.who <;> simp [zq517,zq515]
  ·have k5 : o.kind = 5 := by omega
   simp only [k5,zq307,zq487,show decide ((5 : Int) < 5) = false from rfl,show decide ((5 : Int) = 5) = true from rfl,show decide ((5 : Int) = 3) = false from rfl,zq515,zq517]
   cases betw o.n 0 9999 <;> simp [zq517,zq515]
theorem zq91 {l : List En} (h : logIn l) : zq93 l = some (zq551 l,()) := by
 unfold zq93 zq551
 by_cases hlen : l.length > 30
 ·rw [if_pos hlen,decide_eq_true (show lenL l > 30 by unfold lenL; omega),zq517]
 rw [if_neg hlen,decide_eq_false (show ¬ lenL l > 30 by unfold lenL; omega),zq515]
 have hl : loopN zq85 FUEL (((),((((0 : Nat) : Int)),()),()),l,()) = some (zq1122 l (zq552 (l.drop 0) 0 (prevE l 0))) := by
  refine zq1179 (step := zq85) (fun i => (((),((i : Int),()),()),l,())) l.length (fun i => some (zq1122 l (zq552 (l.drop i) (i : Int) (prevE l i)))) (fun rec i hi hr => ?_) (fun rec => ?_) FUEL 0 (Nat.zero_le _) (zq865 (by omega))
  ·obtain ⟨e,he⟩ : ∃ e,l[i]? = some e := ⟨_,zc0 hi⟩
   have hr1 : zq908 (i : Int) (lenL l) = true := zq910 (by omega) (by unfold lenL; omega)
   have hi1 : i64ok ((i : Int) + 1) = true := zq904 (by omega) (by omega)
   simp only [zq85]
   rw [decide_eq_true (show (i : Int) < lenL l by unfold lenL; omega),zq517]
   simp only [hr1,hi1,zq1562,zq871 he,zq487]
   rw [zq728 he,zq552]
   by_cases hn : e.num = (i : Int) + 1
   rotate_left
   ·rw [if_pos hn,decide_eq_false hn,zc19,zq517]
    rfl
   rw [if_neg (fun h0 => h0 hn),decide_eq_true hn,zc10,zq515,zq307,zq487]
   cases hb : betw e.epoch 1 999
   ·rfl
   simp only [zc10,zq515,Bool.true_eq_false,if_false]
   have hc : (br (decide ((i : Int) > 0)) (req (i64ok ((i : Int) - 1)) (req (zq908 ((i : Int) - 1) (lenL l)) (req (zq908 ((i : Int) - 1) (lenL l)) ((geti l ((i : Int) - 1)).bind fun p3 => some (decide (e.epoch < p3.epoch)))))) (some false)) = some (decide (e.epoch < prevE l i)) := by
    cases i with
    | zero =>
     have := zq485.1 hb
     rw [decide_eq_false (by omega),zq515,decide_eq_false (show ¬ e.epoch < prevE l 0 by simp only [prevE]; omega)]
    | succ k =>
     obtain ⟨e',he'⟩ : ∃ e,l[k]? = some e := ⟨_,zc0 (by omega)⟩
     rw [decide_eq_true (by omega),zq517,show (((k + 1 : Nat) : Int) - 1) = (k : Int) by omega,zq1560 (zq904 (by omega) (by omega)),zq1560 (zq910 (by omega) (by unfold lenL; omega)),zq1560 (zq910 (by omega) (by unfold lenL; omega)),zq871 he',zq487]
     simp only [prevE,he']
   rw [hc,zq487]
   by_cases hp : e.epoch < prevE l i
   ·rw [if_pos hp,decide_eq_true hp,zq517]
    rfl
   rw [if_neg hp,decide_eq_false hp,zq515,zq97 (h e (zc5 he)).2.2,zq487]
   by_cases hf : formO e.op = 0
   rotate_left
   ·rw [if_pos hf,decide_eq_false hf,zc19,zq517,zq1123 hf]
   rw [if_neg (fun h0 => h0 hf),decide_eq_true hf,zc10,zq515,show ((i : Int) + 1) = ((i + 1 : Nat) : Int) by omega,hr]
   rw [show prevE l (i + 1) = e.epoch by simp only [prevE,he]]
  ·simp only [zq85]
   rw [decide_eq_false (show ¬ (l.length : Int) < lenL l by unfold lenL; omega),zq515,zc18 (zc47 _)]
   rfl
 rw [show (((0 : Nat) : Int)) = 0 from rfl,List.drop_zero] at hl
 rw [hl,zq487]
 show sumC (zq1122 l (zq552 l 0 0)) _ _ = _
 unfold zq1122
 by_cases h0 : zq552 l 0 0 = 0
 ·rw [if_pos h0,h0]; rfl
 ·rw [if_neg h0]; rfl
theorem zq277 {l l' : List En} (hl : l.length < 9223372036854775808) : zq279 l l' = some (decide (l = l'),()) := by
 unfold zq279
 by_cases hn : l.length = l'.length
 rotate_left
 ·rw [decide_eq_false (show ¬ lenL l = lenL l' by unfold lenL; omega),zc19,zq517,decide_eq_false (fun h => hn (by rw [h]))]
 rw [decide_eq_true (show lenL l = lenL l' by unfold lenL; omega),zc10,zq515]
 have hlp : loopN zq271 FUEL (((),(),(0,()),()),(l,l',())) = some (if l.drop 0 = l'.drop 0 then Sum.inr ((),(l,l',())) else Sum.inl ((((false : Bool),()),()),(l,l',()))) := by
  refine zq1179 (step := zq271) (fun i => (((),(),((i : Int),()),()),(l,l',()))) l.length (fun i => some (if l.drop i = l'.drop i then Sum.inr ((),(l,l',())) else Sum.inl ((((false : Bool),()),()),(l,l',())))) (fun rec i hi hr => ?_) (fun rec => ?_) FUEL 0 (Nat.zero_le _) (zq865 (by omega))
  ·obtain ⟨e,he⟩ : ∃ e,l[i]? = some e := ⟨_,zc0 hi⟩
   obtain ⟨e',he'⟩ : ∃ e,l'[i]? = some e := ⟨_,zc0 (by omega)⟩
   simp only [zq271]
   rw [decide_eq_true (show (i : Int) < lenL l by unfold lenL; omega),zq517,zq1560 (zq910 (by omega) (by unfold lenL; omega)),zq871 he,zq487,zq1560 (zq910 (by omega) (by unfold lenL; omega)),zq871 he',zq487,zq752,zq728 he,zq728 he']
   by_cases hee : e = e'
   ·rw [decide_eq_true hee,zc10,zq515,show ((i : Int) + 1) = ((i + 1 : Nat) : Int) by omega,zq1560 (zq904 (by omega) (by omega)),hr]
    subst hee
    simp
   ·rw [decide_eq_false hee,zc19,zq517]
    simp [hee]
  ·simp only [zq271]
   rw [decide_eq_false (show ¬ (l.length : Int) < lenL l by unfold lenL; omega),zq515,zc18 (zc47 _),zc18 (show l'.length ≤ l.length by omega)]
   rfl
 rw [hlp,zq487,List.drop_zero,List.drop_zero]
 by_cases h : l = l'
 ·rw [if_pos h,decide_eq_true h]; rfl
 ·rw [if_neg h,decide_eq_false h]; rfl
theorem zq715 (ep h u : Int) {l : List En} (hl : l.length < 9223372036854775808) : ∀ (N : Nat) (e : Int) (i : Nat),i ≤ l.length → l.length - i < N →
  loopN zq70 N (((),(e,()),((i : Int),()),()),(l,(ep,h,u,()),())) = some (((if e = 0 then (if (l.drop i).any (fun x => decide (ep < x.epoch)) = true then 4 else 0) else e,()),()),(l,())) := by
 intro N
 induction N with
 | zero => intro e i _ h; omega
 | succ N ih =>
  intro e i hi hn
  rw [zq1176]
  simp only [zq70,br_sb,zq487]
  by_cases hin : i < l.length
  ·obtain ⟨x,hx⟩ : ∃ e,l[i]? = some e := ⟨_,zc0 hin⟩
   rw [decide_eq_true (show (i : Int) < lenL l by unfold lenL; omega),cond_true]
   by_cases he : e = 0
   ·have hr1 : zq908 (i : Int) (lenL l) = true := zq910 (by omega) (by unfold lenL; omega)
    have hi1 : i64ok ((i : Int) + 1) = true := zq904 (by omega) (by omega)
    rw [decide_eq_true he,zq517,if_pos he]
    simp only [hr1,hi1,zq1562,zq871 hx,zq487]
    rw [show ((i : Int) + 1) = ((i + 1 : Nat) : Int) by omega,ih _ (i + 1) (by omega) (by omega),ih _ (i + 1) (by omega) (by omega),zq728 hx]
    by_cases hp : x.epoch > ep
    ·have hp' : ep < x.epoch := hp
     rw [decide_eq_true hp,zq517]
     simp [hp']
    ·have hp' : ¬ ep < x.epoch := hp
     rw [decide_eq_false hp,zq515]
     simp [hp',he]
   ·rw [decide_eq_false he,zq515,if_neg he]
  ·rw [decide_eq_false (show ¬ (i : Int) < lenL l by unfold lenL; omega),cond_false,zq515,zc18 (by omega)]
   by_cases he : e = 0
   ·rw [if_pos he,he]; rfl
   ·rw [if_neg he]
theorem zq76 (ep h u : Int) {l : List En} (hl : logIn l) (hlen : l.length < 9223372036854775808) : zq78 ep h u l = some (zq549 ep h u l,()) := by
 unfold zq78 zq549
 simp only [zq307,zq487,br_sb]
 cases h1 : betw ep 0 999 <;> cases h2 : betw h 0 2 <;> cases h3 : betw u 0 10009 <;> simp only [zc19,zc10,cond_true,cond_false,zq517,zq515,true_or,or_true,if_true]
 simp only [Bool.true_eq_false,or_self,if_false]
 obtain ⟨a1,a2⟩ := zq485.1 h1
 obtain ⟨a3,a4⟩ := zq485.1 h2
 obtain ⟨a5,a6⟩ := zq485.1 h3
 rw [zq91 hl,zq487]
 have hd := zq715 ep h u hlen FUEL (zq551 l) 0 (Nat.zero_le _) (zq865 (by omega))
 rw [show (((0 : Nat) : Int)) = 0 from rfl,List.drop_zero] at hd
 simp only
 rw [hd,zq487]
 have tail : (if zq551 l = 0 then (if l.any (fun x => decide (ep < x.epoch)) = true then (4 : Int) else 0) else zq551 l) = (if zq551 l ≠ 0 then zq551 l else if l.any (fun e => decide (ep < e.epoch)) = true then 4 else 0) := by
  by_cases hc : zq551 l = 0
  ·simp only [hc,if_true,ne_eq,not_true,if_false]
  ·rw [if_neg hc,if_pos hc]
 simp only [tail]
 by_cases k : h = 0
 ·by_cases k1 : ep = 0
  ·by_cases k2 : u = 0
   ·simp [k,k1,k2,zq515]
   ·have : u > 0 := by omega
    simp [k,k1,k2,this,zq517]
  ·have : ep > 0 := by omega
   simp [k,k1,this,zq517]
 ·have : h > 0 := by omega
  by_cases k1 : ep = 0
  ·simp [k,k1,this,zq517]
  ·simp [k,k1,zq515]
theorem zq19 {l : List En} (hl : l.length ≤ 30) (ep : Int) {o : Oq} (ho : o.In) : zq21 l ep o = some (zq1224 l ep o) := by
 unfold zq21 zq1224
 rw [zq307,zq487]
 cases h1 : betw ep 1 999
 ·rfl
 obtain ⟨h2,h3⟩ := zq485.1 h1
 simp only [zc10,zq515,Bool.true_eq_false,if_false]
 rw [zq982 hl (by omega),zq487]
 by_cases h4 : ep < prevE l l.length
 ·rw [decide_eq_true h4,zq517,if_pos h4]
 rw [decide_eq_false h4,zq515,if_neg h4,zq97 ho,zq487]
 by_cases h5 : formO o = 0
 ·rw [decide_eq_true (show (formO o,()).1 = 0 from h5),zc10,zq515,if_neg (fun h => h h5)]
  by_cases h6 : l.length = 30
  ·rw [decide_eq_true (show lenL l = 30 by unfold lenL; omega),zq517,if_pos h6]
  ·rw [decide_eq_false (show ¬ lenL l = 30 by unfold lenL; omega),zq515,if_neg h6]
   have r1 : room (lenL ([] : List En)) (lenL l) = true := zq1574 (zq1107 _) (zq1107 _) (by simp only [lenL,zc32]; omega)
   have r2 : ∀ x : En,room (lenL l) (lenL [x]) = true := fun x => zq1574 (zq1107 _) (zq1107 _) (by simp only [lenL,zc21,zc32]; omega)
   have r3 : i64ok (lenL l + 1) = true := zq904 (by unfold lenL; omega) (by unfold lenL; omega)
   simp only [List.nil_append,r1,r2,r3,zq1562,zq730,zq513]
 ·rw [decide_eq_false (show ¬ (formO o,()).1 = 0 from h5),zc19,zq517,if_pos h5]
theorem zq301 (ep h u : Int) {l : List En} (hl : l.length ≤ 30) (e : Int) {o : Oq} (ho : o.In) : zq303 ep h u l e o = some (putOf ep h u l e o) := by
 unfold zq303 putOf
 rw [br_sb,zq487,zq19 hl e ho,zq487]
 by_cases h1 : e = 0
 ·simp [h1,zq517,noDk]
 by_cases h2 : e = ep
 ·rw [if_neg (by simp [h1,h2]; omega)]
  simp only [decide_eq_false h1,decide_eq_true h2,cond_false,zc10,zq515]
  by_cases h3 : (zq1224 l e o).2.1 = 0 <;> simp [h3,zq517,zq515,noDk]
 ·simp [h1,h2,zq517,noDk]
theorem zq259 (a0 a1 a2 : Int) {a3 : List En} (b0 b1 b2 : Int) (b3 : List En) (hl : a3.length < 9223372036854775808) : zq261 a0 a1 a2 a3 b0 b1 b2 b3 = some (decide (((a0,a1,a2,a3,()) : Dk) = (b0,b1,b2,b3,())),()) := by
 unfold zq261
 simp only [zq277 hl,zq487,br_sb]
 congr 1
 simp only [Prod.mk.injEq,and_true]
 by_cases h0 : a0 = b0 <;> by_cases h1 : a1 = b1 <;> by_cases h2 : a2 = b2 <;> simp [h0,h1,h2]
theorem zq381 {ep h u : Int} (l : List En) (who now : Int) (h1 : ep ≤ 999) : acqOf ep h u l who now =
  (let held := !decide (h = 0) && decide (u ≥ now)
   if held = true ∧ h ≠ who then (noDk,4,()) else if held = false then (if ep + 1 > 999 then (noDk,2,()) else ((ep + 1,who,now + 10,l,()),0,())) else if ep > 999 then (noDk,2,()) else ((ep,who,now + 10,l,()),0,())) := by
 have hv : (!decide (h = 0) && decide (u ≥ now)) = !overL h u now := by
  unfold overL
  by_cases k : h = 0
  ·simp [k]
  ·by_cases k2 : u < now
   ·have : ¬ u ≥ now := by omega
    simp [k,k2,this]
   ·have : u ≥ now := by omega
    simp [k,k2,this]
 simp only [hv]
 unfold acqOf
 cases overL h u now
 ·by_cases k : h = who
  ·have : ¬ ep > 999 := by omega
   simp [k,this]
  ·simp [k]
 ·by_cases k : ep = 999
  ·have : ep + 1 > 999 := by omega
   simp [k]
  ·have : ¬ ep + 1 > 999 := by omega
   simp [k,this]
end Go.Ma
namespace Go.Ma
open Go
section
variable {α A R : Type}
theorem zq907 {step : (A → Option R) → A → Option R} (b : List α) (q : α → Bool) (mk : Nat → A) (out : Option Nat → R) (hlen : b.length < 9223372036854775808)
  (h : ∀ (rec : A → Option R) (i : Nat) (x : α),b[i]? = some x → i < b.length → step rec (mk i) = if q x then some (out (some i)) else rec (mk (i + 1)))
  (hend : ∀ rec : A → Option R,step rec (mk b.length) = some (out none)) : loopN step FUEL (mk 0) = some (out (zq816 q b)) := by
 have := zq1179 (step := step) mk b.length (fun i => some (out ((zq816 q (b.drop i)).map (· + i)))) (fun rec i hi hr => ?_) (fun rec => ?_) FUEL 0 (Nat.zero_le _) (zq865 (by omega))
 ·rw [List.drop_zero,show (fun x => x + 0) = (id : Nat → Nat) from rfl,Option.map_id] at this
  exact this
 ·obtain ⟨e,he⟩ : ∃ e,b[i]? = some e := ⟨_,zc0 hi⟩
  rw [h rec i e he hi,zq818 he]
  cases q e
  ·rw [if_neg (by simp),if_neg (by simp),hr]
  ·rw [if_pos rfl,if_pos rfl]
 ·rw [hend,zc18 (zc47 _)]
  rfl
theorem zq486 {step : (A → Option R) → A → Option R} (n pos : Nat) (hp : pos ≤ n) (hn : n < 9223372036854775808) (mk : Nat → Nat → A) (out : R)
  (h : ∀ (rec : A → Option R) (i j : Nat),i < j → i ≤ pos → pos ≤ j → j ≤ n → step rec (mk i j) = if (i + j) / 2 < pos then rec (mk ((i + j) / 2 + 1) j) else rec (mk i ((i + j) / 2)))
  (hend : ∀ rec : A → Option R,step rec (mk pos pos) = some out) : loopN step FUEL (mk 0 n) = some out := by
 have key : ∀ (N i j : Nat),j - i < N → i ≤ pos → pos ≤ j → j ≤ n → loopN step N (mk i j) = some out := by
  intro N
  induction N with
  | zero => intro i j h; omega
  | succ N ih =>
   intro i j hN h1 h2 h3
   rw [zq1176]
   by_cases hij : i < j
   ·rw [h _ i j hij h1 h2 h3]
    by_cases hh : (i + j) / 2 < pos
    ·rw [if_pos hh]; exact ih _ _ (by omega) (by omega) h2 h3
    ·rw [if_neg hh]; exact ih _ _ (by omega) h1 (by omega) (by omega)
   ·have : i = pos := by omega
    have : j = pos := by omega
    subst i j
    exact hend _
 exact key FUEL 0 n (zq865 (by omega)) (Nat.zero_le _) hp (zc47 _)
theorem zq522 {step : (A → Option R) → A → Option R} (l : List α) (x : α) (p : Nat) (hp : p ≤ l.length) (hn : l.length < 9223372036854775808) (mk : Nat → List α → A) (out : R)
  (h : ∀ (rec : A → Option R) (k : Nat),p < k → k ≤ l.length → step rec (mk k (l.take k ++ x :: l.drop k)) = rec (mk (k - 1) (l.take (k - 1) ++ x :: l.drop (k - 1))))
  (hend : ∀ rec : A → Option R,step rec (mk p (l.take p ++ x :: l.drop p)) = some out) : loopN step FUEL (mk l.length (l ++ [x])) = some out := by
 have key : ∀ (N k : Nat),k < N → p ≤ k → k ≤ l.length → loopN step N (mk k (l.take k ++ x :: l.drop k)) = some out := by
  intro N
  induction N with
  | zero => intro k h; omega
  | succ N ih =>
   intro k hN h1 h2
   rw [zq1176]
   by_cases hk : p < k
   ·rw [h _ k hk h2]; exact ih _ (by omega) (by omega) (by omega)
   ·have : k = p := by omega
    subst this
    exact hend _
 have := key FUEL l.length (zq865 (by omega)) hp (zc47 _)
 rwa [List.take_length,List.drop_length] at this
theorem zq524 (l : List α) (x : α) (k : Nat) (y : α) (hk : 0 < k) (hl : k ≤ l.length) (hy : l[k - 1]? = some y) : ((l.take k ++ x :: l.drop k).set k y).set (k - 1) x = l.take (k - 1) ++ x :: l.drop (k - 1) := by
 obtain ⟨h1,h2⟩ := zc1.1 hy
 have ht : l.take k = l.take (k - 1) ++ [y] := by
  have := zc26 h1
  rw [show k - 1 + 1 = k by omega] at this
  rw [this,h2]
 have hd : l.drop (k - 1) = y :: l.drop k := by
  have := List.drop_eq_getElem_cons h1
  rw [show k - 1 + 1 = k by omega] at this
  rw [this,h2]
 have hlen : (l.take (k - 1)).length = k - 1 := by rw [zc20]; omega
 rw [ht,hd,List.append_assoc,List.set_append,if_neg (by omega),hlen,show k - (k - 1) = 1 by omega]
 rw [List.set_append,if_neg (by omega),hlen,Nat.sub_self]
 rfl
theorem zq520 (l : List α) (x : α) (k : Nat) (hl : k ≤ l.length) : (l.take k ++ x :: l.drop k)[k]? = some x := by
 have hlen : (l.take k).length = k := by rw [zc20]; omega
 rw [List.getElem?_append_right (by omega),hlen,Nat.sub_self]
 rfl
theorem zq523 (l : List α) (x : α) (k j : Nat) (hj : j < k) (hl : k ≤ l.length) : (l.take k ++ x :: l.drop k)[j]? = l[j]? := by
 rw [List.getElem?_append_left (by rw [zc20]; omega),List.getElem?_take,if_pos hj]
theorem zq521 (l : List α) (x : α) (k : Nat) (hl : k ≤ l.length) : (l.take k ++ x :: l.drop k).length = l.length + 1 := by
 simp only [List.length_append,zc20,zc21,List.length_drop]; omega
theorem zq848 {step : (A → Option R) → A → Option R} (b : List α) (q : α → Bool) (mk : Nat → List α → A) (out : List α → R) (hlen : b.length < 9223372036854775808)
  (h : ∀ (rec : A → Option R) (i : Nat) (x : α) (acc : List α),b[i]? = some x → i < b.length → acc.length ≤ i → step rec (mk i acc) = rec (mk (i + 1) (if q x then acc ++ [x] else acc)))
  (hend : ∀ (rec : A → Option R) (acc : List α),step rec (mk b.length acc) = some (out acc)) : loopN step FUEL (mk 0 []) = some (out (b.filter q)) := by
 have := zq1179 (step := step) (fun i => mk i ((b.take i).filter q)) b.length (fun _ => some (out (b.filter q))) (fun rec i hi hr => ?_) (fun rec => ?_) FUEL 0 (Nat.zero_le _) (zq865 (by omega))
 ·simpa using this
 ·obtain ⟨e,he⟩ : ∃ e,b[i]? = some e := ⟨_,zc0 hi⟩
  have hle : ((b.take i).filter q).length ≤ i := Nat.le_trans (List.length_filter_le _ _) (by simp; omega)
  rw [h rec i e _ he hi hle]
  have ht : b.take (i + 1) = b.take i ++ [e] := by
   rw [zc26 hi,(zc1.1 he).2]
  rw [ht] at hr
  rw [← hr,List.filter_append]
  congr 2
  cases hq : q e <;> simp [List.filter,hq]
 ·rw [hend,List.take_length]
end
theorem zq1375 {α : Type} (ls : List (List α)) : padL ls.length ls = ls := by simp [padL]
theorem zq1376 {α : Type} {ls : List (List α)} {n : Nat} (h : ls.length = n) : padL n ls = ls := by subst h; exact zq1375 ls
theorem zq869 {α : Type} (ls : List (List α)) (i : Nat) : getL ls (i : Int) = ls.getD i [] := by
 unfold getL
 rw [if_pos (by omega)]
 rfl
def pfIn (l : List Pf) : Prop := ∀ p ∈ l,p.In ∧ chkP p = 0
def zq1388 (ps : List Pf) (a : Ad) : Option Nat := zq816 (fun p => holds p a) ps
theorem zq1436 {p q : Pf} (hp : p.In) (hq : q.In) (cp : chkP p = 0) (cq : chkP q = 0) : zq1438 p q = some (over p q || over q p,()) := by
 unfold zq1438
 rw [zq1448 cp hq,zq487,zq1448 cq hp]
 cases over p q <;> rfl
theorem zq112 {p q : Pf} (hp : p.In) (hq : q.In) (cp : chkP p = 0) (cq : chkP q = 0) : zq114 p q = some (over p q || over q p,()) := by
 unfold zq114
 rw [zq175 hp cp hq (zq565 cq),zq487,zq175 hq cq hp (zq565 cp)]
 cases over p q <;> rfl
theorem zq1772 {ps : List Pf} (hp : pfIn ps) (hlen : ps.length ≤ 1048576) (ks : List (List Ad)) (ls : List Ls) (now : Int) {a : Ad} (ha : a.In) : zq1780 (ps,ks) ls now a = some (idxI (zq1388 ps a),()) := by
 unfold zq1780
 have := zq907 (step := zq1774) ps (fun p => holds p a) (fun i => (((),(),(lenL ps,()),((i : Int),()),()),(ks,ps,ls,(now,()),(a,()),())))
  (fun o => match o with | some i => Sum.inl ((((i : Int),()),()),(ks,ps,ls,(now,()),(a,()),())) | none => Sum.inr ((),(ks,ps,ls,(now,()),(a,()),()))) (by omega) (fun rec i x hx hi => ?_) (fun rec => ?_)
 ·rw [show ((0 : Nat) : Int) = 0 from rfl] at this
  simp only
  rw [this,zq487]
  unfold zq1388
  cases zq816 (fun p => holds p a) ps <;> rfl
 ·obtain ⟨h1,h2⟩ := hp x (zc5 hx)
  obtain ⟨b1,b2⟩ := zq566 h2
  simp only [zq1774]
  rw [decide_eq_true (show (i : Int) < lenL ps by unfold lenL; omega),zq517,zq1560 (zq910 (by omega) (by unfold lenL; omega)),zq871 hx,zq487,zq1768,zq1424 b1 b2 ha,zq487,zq487]
  cases holds x a
  ·rw [show ((i : Int) + 1) = ((i + 1 : Nat) : Int) by omega,zq515,zq1560 (zq904 (by omega) (by omega)),if_neg (by simp)]
  ·rw [zq517,if_pos rfl]
 ·simp only [zq1774]
  rw [decide_eq_false (show ¬ (ps.length : Int) < lenL ps by unfold lenL; omega),zq515]
theorem zq221 {ps : List Pf} (hp : pfIn ps) (hlen : ps.length ≤ 1048576) (ks : List (List Ad)) (ls : List Ls) (now : Int) {a : Ad} (ha : a.In) (ca : chkA a = 0) : zq223 (ps,ks) ls now a = some (idxI (zq1388 ps a),()) := by
 unfold zq223
 have := zq907 (step := zq215) ps (fun p => holds p a) (fun i => (((),(),((i : Int),()),()),(ks,ps,ls,(now,()),(a,()),())))
  (fun o => match o with | some i => Sum.inl ((((i : Int),()),()),(ks,ps,ls,())) | none => Sum.inr ((),(ks,ps,ls,()))) (by omega) (fun rec i x hx hi => ?_) (fun rec => ?_)
 ·rw [show ((0 : Nat) : Int) = 0 from rfl] at this
  simp only
  rw [this,zq487]
  unfold zq1388
  cases zq816 (fun p => holds p a) ps <;> rfl
 ·obtain ⟨h1,h2⟩ := hp x (zc5 hx)
  have r1 : zq908 (i : Int) (lenL ps) = true := zq910 (by omega) (by unfold lenL; omega)
  simp only [zq215]
  rw [decide_eq_true (show (i : Int) < lenL ps by unfold lenL; omega),zq517,zq1560 r1,zq1560 r1,zq871 hx,zq487,zq169 h1 h2 ha ca,zq487]
  cases holds x a
  ·rw [show ((i : Int) + 1) = ((i + 1 : Nat) : Int) by omega,zq515,zq1560 (zq904 (by omega) (by omega)),if_neg (by simp)]
  ·rw [zq517,if_pos rfl]
 ·simp only [zq215]
  rw [decide_eq_false (show ¬ (ps.length : Int) < lenL ps by unfold lenL; omega),zq515]
def meets (p q : Pf) : Bool := over p q || over q p
def zq1392 : List Pf → List (List Ad) → Int
 | [],_ => 0
 | p :: r,ks => if zq568 p (ks.headD []) ≠ 0 then zq568 p (ks.headD []) else zq1392 r ks.tail
def adjOk : List Pf → Bool
 | p :: q :: r => decide (ordP p q < 0) && (!meets p q && adjOk (q :: r))
 | _ => true
def stF' (ps : List Pf) (now : Int) : List Ls → List Ls → Int
 | _,[] => 0
 | bf,x :: r => if (zq1388 ps x.ad).isNone = true then 5 else if bf.any (whoP x.who) = true then 6 else if x.upto < now then 4 else stF' ps now (bf ++ [x]) r
def chkS (ps : List Pf) (ks : List (List Ad)) (ls : List Ls) (now : Int) : Int :=
 if ps.length > 3 then 2 else if zq1392 ps ks ≠ 0 then zq1392 ps ks else if adjOk ps = false then 4 else if betw now 0 9999 = false then 3
 else if allC ls now ≠ 0 then allC ls now else stF' ps now [] ls
theorem zq1393 : ∀ {ps : List Pf} {ks : List (List Ad)},zq1392 ps ks = 0 → ∀ (i : Nat) (p : Pf),ps[i]? = some p → zq568 p (ks.getD i []) = 0
 | [],_,_,i,p,h => by simp at h
 | q :: r,ks,h,i,p,hp => by
  unfold zq1392 at h
  by_cases hc : zq568 q (ks.headD []) = 0
  ·rw [if_neg (fun h => h hc)] at h
   match i with
   | 0 =>
    simp only [zc13,zc2] at hp
    subst hp
    cases ks <;> exact hc
   | i + 1 =>
    simp only [List.getElem?_cons_succ] at hp
    have := zq1393 h i p hp
    cases ks <;> simpa using this
  ·rw [if_pos hc] at h; exact absurd h hc
end Go.Ma
namespace Go.Ma
open Go
def kV (v : Bool) : Int := if v then 1 else 0
theorem zq1338 (a b : Ad) : (ordA a b < 0 ↔ kV a.v6 < kV b.v6 ∨ (kV a.v6 = kV b.v6 ∧ (a.hi < b.hi ∨ (a.hi = b.hi ∧ a.lo < b.lo)))) ∧ (ordA a b = 0 ↔ kV a.v6 = kV b.v6 ∧ a.hi = b.hi ∧ a.lo = b.lo) := by
 unfold ordA ordI kV
 cases a.v6 <;> cases b.v6 <;> simp <;> (by_cases h1 : a.hi = b.hi <;> simp [h1] <;> constructor <;> (repeat' split) <;> omega)
theorem zq1341 (p q : Pf) : ordP p q < 0 ↔ kV p.ad.v6 < kV q.ad.v6 ∨ (kV p.ad.v6 = kV q.ad.v6 ∧ (p.ad.hi < q.ad.hi ∨ (p.ad.hi = q.ad.hi ∧ (p.ad.lo < q.ad.lo ∨ (p.ad.lo = q.ad.lo ∧ p.bits < q.bits))))) := by
 obtain ⟨h1,h2⟩ := zq1338 p.ad q.ad
 unfold ordP
 split <;> omega
theorem zq965 {v w : Bool} (h : kV v = kV w) : v = w := by cases v <;> cases w <;> first | rfl | (exact absurd h (by decide))
theorem zq1345 {p q r : Pf} (h1 : ordP p q < 0) (h2 : ordP q r < 0) : ordP p r < 0 := by
 rw [zq1341] at h1 h2 ⊢
 omega
theorem zq1344 (p : Pf) : ordP p p = 0 := by
 have h := (zq1338 p.ad p.ad).2.2 ⟨rfl,rfl,rfl⟩
 unfold ordP
 rw [if_neg (fun h' => h' h)]
 omega
end Go.Ma
namespace Go.Ma
open Go
theorem zq571 {A R : Type} {step : (A → Option R) → A → Option R} (n i0 : Nat) (hi0 : i0 ≤ n) (hn : n < 9223372036854775808) (c F : Nat → Int) (mk : Nat → A) (ok : R) (err : Int → R)
  (hF : ∀ i,i0 ≤ i → i < n → F i = if c i ≠ 0 then c i else F (i + 1)) (hFn : F n = 0)
  (h : ∀ (rec : A → Option R) (i : Nat),i0 ≤ i → i < n → (∀ j,i0 ≤ j → j < i → c j = 0) → step rec (mk i) = if c i ≠ 0 then some (err (c i)) else rec (mk (i + 1)))
  (hend : ∀ rec : A → Option R,(∀ j,i0 ≤ j → j < n → c j = 0) → step rec (mk n) = some ok) : loopN step FUEL (mk i0) = some (if F i0 = 0 then ok else err (F i0)) := by
 have key : ∀ (N i : Nat),i0 ≤ i → n - i < N → i ≤ n → (∀ j,i0 ≤ j → j < i → c j = 0) → loopN step N (mk i) = some (if F i = 0 then ok else err (F i)) := by
  intro N
  induction N with
  | zero => intro i _ h; omega
  | succ N ih =>
   intro i hi hN hin hp
   rw [zq1176]
   by_cases hlt : i < n
   ·have e1 := hF i hi hlt
    by_cases hc : c i = 0
    ·rw [if_neg (fun h => h hc)] at e1
     rw [h _ i hi hlt hp,if_neg (fun h => h hc),e1]
     exact ih (i + 1) (by omega) (by omega) (by omega) (fun j h1 h2 => by
      by_cases hj : j = i
      ·rw [hj]; exact hc
      ·exact hp j h1 (by omega))
    ·rw [if_pos hc] at e1
     rw [h _ i hi hlt hp,if_pos hc,e1,if_neg hc]
   ·have : i = n := by omega
    subst this
    rw [hend _ hp,hFn,if_pos rfl]
 exact key FUEL i0 (zc47 _) (zq865 (by omega)) hi0 (fun j h1 h2 => by omega)
theorem zq1346 {p q : Pf} (h1 : ¬ ordP p q < 0) (h2 : ¬ ordP q p < 0) : ordP q p = 0 := by
 rw [zq1341] at h1 h2
 have h3 := (zq1338 q.ad p.ad).2.2 (by omega)
 unfold ordP
 rw [if_neg (fun h' => h' h3)]
 omega
theorem zq1342 {p q : Pf} : ordP q p > 0 ↔ ordP p q < 0 := by
 constructor
 ·intro h
  by_cases h1 : ordP p q < 0
  ·exact h1
  ·have := zq1346 h1 (by omega : ¬ ordP q p < 0)
   omega
 ·intro h
  by_cases h1 : ordP q p < 0
  ·have := zq1345 h h1
   rw [zq1344] at this
   omega
  ·by_cases h0 : ordP q p = 0
   ·rw [zq1341] at h
    by_cases hA : ordA q.ad p.ad = 0
    ·have h5 := (zq1338 q.ad p.ad).2.1 hA
     unfold ordP at h0
     rw [if_neg (fun h' => h' hA)] at h0
     omega
    ·unfold ordP at h0
     rw [if_pos hA] at h0
     exact absurd h0 hA
   ·omega
theorem zq427 {p q : Pf} (hp : p.In) (hq : q.In) : zq426 p q = decide (ordP p q < 0) := by
 rw [← zq1347 hp hq]
 exact decide_eq_decide.2 zq1342
theorem zq1343 {p q : Pf} (hp : p.In) (hq : q.In) (h : ordP p q < 0) : rank p.ad ≤ rank q.ad := by
 obtain ⟨h1,h2⟩ := zq1348 hp.1 hq.1
 unfold ordP at h
 split at h
 ·have := h1.1 h; omega
 ·rename_i h3
  have := h2.1 (zc50.1 h3); omega
theorem zq1508 {a b : Ad} (ha : a.In) (hb : b.In) (h : rank a ≤ rank b) (hv : a.v6 = b.v6) : a.num ≤ b.num := by
 unfold rank at h
 rw [hv] at h
 omega
theorem zq1509 {a b c : Ad} (ha : a.In) (hb : b.In) (hc : c.In) (h : rank a ≤ rank b) (h2 : rank b ≤ rank c) (hv : a.v6 = c.v6) : a.v6 = b.v6 ∧ b.v6 = c.v6 := by
 have h3 := zq1261 ha
 have h4 := zq1261 hb
 have h5 := zq1261 hc
 unfold rank at h h2
 rw [← hv] at h2 ⊢
 cases hav : a.v6 <;> cases hbv : b.v6 <;> simp only [hav,hbv,if_true,zc16,if_false] at h h2 <;> first | exact ⟨rfl,rfl⟩ | (exfalso; omega)
theorem zq1204 (p q : Pf) : meets p q = meets q p := by unfold meets; exact Bool.or_comm _ _
theorem zq1206 {p q : Pf} (hp : p.In) (hq : q.In) (cp : chkP p = 0) (cq : chkP q = 0) (hv : p.ad.v6 = q.ad.v6) (h1 : q.ad.num ≤ p.ad.num + (2 ^ free p - 1)) (h2 : p.ad.num ≤ q.ad.num + (2 ^ free q - 1)) : meets p q = true := by
 unfold meets
 by_cases hb : p.bits ≤ q.bits
 ·rw [zq454 hp hq cp cq hv h1 h2 hb]; rfl
 ·rw [zq454 hq hp cq cp hv.symm h2 h1 (by omega)]; simp
theorem zq1205 {p q : Pf} (hp : p.In) (hq : q.In) (cp : chkP p = 0) (cq : chkP q = 0) : meets p q = true ↔ p.ad.v6 = q.ad.v6 ∧ q.ad.num ≤ p.ad.num + (2 ^ free p - 1) ∧ p.ad.num ≤ q.ad.num + (2 ^ free q - 1) := by
 constructor
 ·intro h
  unfold meets at h
  rw [Bool.or_eq_true] at h
  have e1 := Nat.two_pow_pos (free p)
  have e2 := Nat.two_pow_pos (free q)
  rcases h with h | h
  ·obtain ⟨h1,h2,h3⟩ := (zq902 hp cp hq.1).1 (zq1356.1 h).2
   exact ⟨h1,by omega,by omega⟩
  ·obtain ⟨h1,h2,h3⟩ := (zq902 hq cq hp.1).1 (zq1356.1 h).2
   exact ⟨h1.symm,by omega,by omega⟩
 ·rintro ⟨h1,h2,h3⟩
  exact zq1206 hp hq cp cq h1 h2 h3
theorem zq1203 {p q r : Pf} (hp : p.In) (hq : q.In) (hr : r.In) (cp : chkP p = 0) (cq : chkP q = 0) (cr : chkP r = 0) (h1 : ordP p q < 0) (h2 : ordP q r < 0) (h : meets p r = true) : meets p q = true := by
 obtain ⟨m1,m2,m3⟩ := (zq1205 hp hr cp cr).1 h
 have r1 := zq1343 hp hq h1
 have r2 := zq1343 hq hr h2
 obtain ⟨v1,v2⟩ := zq1509 hp.1 hq.1 hr.1 r1 r2 m1
 have n1 := zq1508 hp.1 hq.1 r1 v1
 have n2 := zq1508 hq.1 hr.1 r2 v2
 exact zq1206 hp hq cp cq v1 (by omega) (by omega)
def zq451 (p q : Pf) : Prop := ordP p q < 0 ∧ meets p q = false
theorem zq424 : ∀ {ps : List Pf},pfIn ps → (adjOk ps = true ↔ ps.Pairwise zq451)
 | [],_ => by simp [adjOk]
 | [p],_ => by simp [adjOk]
 | p :: q :: r,h => by
  have h' : pfIn (q :: r) := fun x hx => h x (List.mem_cons_of_mem _ hx)
  have ih := zq424 h'
  have hp := h p List.mem_cons_self
  have hq := h q (List.mem_cons_of_mem _ List.mem_cons_self)
  simp only [adjOk,zc4,decide_eq_true_eq,Bool.not_eq_true']
  rw [ih]
  constructor
  ·rintro ⟨h1,h2,h3⟩
   refine zc45.2 ⟨fun x hx => ?_,h3⟩
   rcases zc28.1 hx with rfl | hx
   ·exact ⟨h1,h2⟩
   ·have hqx := (zc45.1 h3).1 x hx
    have hxi := h' x (List.mem_cons_of_mem _ hx)
    refine ⟨zq1345 h1 hqx.1,?_⟩
    cases hm : meets p x
    ·rfl
    ·rw [zq1203 hp.1 hq.1 hxi.1 hp.2 hq.2 hxi.2 h1 hqx.1 hm] at h2
     cases h2
  ·intro hh
   obtain ⟨h1,h2⟩ := zc45.1 hh
   have := h1 q List.mem_cons_self
   exact ⟨this.1,this.2,h2⟩
def kpIn (ks : List (List Ad)) : Prop := ∀ k ∈ ks,adIn k
theorem kp_at {ks : List (List Ad)} (h : kpIn ks) (i : Nat) : adIn (ks.getD i []) := by
 rw [List.getD_eq_getElem?_getD]
 cases he : ks[i]? with
 | none => intro a ha; cases ha
 | some k => exact h k (zc5 he)
end Go.Ma
namespace Go.Ma
open Go
theorem zq905 (o : Option Nat) : decide (idxI o < 0) = o.isNone := by
 cases o with
 | none => rfl
 | some k =>
  have : ¬ idxI (some k) < 0 := by show ¬ (k : Int) < 0; omega
  simp [this]
theorem zq1381 {ps : List Pf} (hp : ∀ p ∈ ps,p.In) {ks : List (List Ad)} (h : zq1392 ps ks = 0) : pfIn ps := fun p hm => by
 obtain ⟨i,hi⟩ := List.mem_iff_getElem?.1 hm
 exact ⟨hp p hm,(zq570 (zq1393 h i p hi)).1⟩
end Go.Ma
