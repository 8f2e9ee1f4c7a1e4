/-
  Parts: Pm Lc Ld Le Lg Lh Li Lo Ca Cf Ph Ce Pi Pj Pk Cb Cd Lm Pd Pe Pg Sa Cc Sb Sc Sd.
-/
import Derived.Test.YtjolfddpghkabaaGreatZr3
set_option linter.unusedVariables false
set_option linter.unusedSimpArgs false
open List renaming getElem?_eq_getElem → zc0, getElem?_eq_some_iff → zc1, mem_of_getElem? → zc5, getElem?_cons_zero → zc13, drop_of_length_le → zc18, length_cons → zc21, mem_cons → zc28, length_nil → zc32, getElem?_cons_succ → zc35, mem_append → zc36, pairwise_cons → zc45
open Option.some renaming injEq → zc2
open Bool renaming and_eq_true → zc4, not_true → zc10, false_eq_true → zc16, not_false → zc19
open Nat renaming le_refl → zc47
open Decidable renaming not_not → zc49
noncomputable section
namespace Go.Ma
open Go
abbrev lease_Raw_slices_IndexFunc___api_Lease_api_Lease__L2_A := ((Unit × Unit × (Int × Unit) × (Int × Unit) × Unit) × (List Ad × List Ls × (Bool × Int × Int × Int × Unit) × (ByteArray × Unit) × List Ls × (Ad × Unit) × List Ls × (Bool × Int × Int × Int × Unit) × Unit))
abbrev lease_Raw_slices_IndexFunc___api_Lease_api_Lease__L2_B := Option ((((Int × Unit) × Unit) × (List Ad × List Ls × (Bool × Int × Int × Int × Unit) × (ByteArray × Unit) × List Ls × (Ad × Unit) × List Ls × (Bool × Int × Int × Int × Unit) × Unit)) ⊕ (Unit × (List Ad × List Ls × (Bool × Int × Int × Int × Unit) × (ByteArray × Unit) × List Ls × (Ad × Unit) × List Ls × (Bool × Int × Int × Int × Unit) × Unit)))
def zq967 (rec : lease_Raw_slices_IndexFunc___api_Lease_api_Lease__L2_A → lease_Raw_slices_IndexFunc___api_Lease_api_Lease__L2_B) (x : lease_Raw_slices_IndexFunc___api_Lease_api_Lease__L2_A) : lease_Raw_slices_IndexFunc___api_Lease_api_Lease__L2_B :=
 let v0 := x.1.2.2.1.1
 let v1 := x.1.2.2.2.1.1
 let v2 := x.2.1
 let v3 := x.2.2.1
 let v4 := x.2.2.2.1.1
 let v5 := x.2.2.2.1.2.1
 let v6 := x.2.2.2.1.2.2.1
 let v7 := x.2.2.2.1.2.2.2.1
 let v8 := x.2.2.2.2.1.1
 let v9 := x.2.2.2.2.2.1
 let zz := x.2.2.2.2.2.2
 let v10 := zz.1.1
 let v11 := zz.2.1
 let v12 := zz.2.2.1.1
 let v13 := zz.2.2.1.2.1
 let v14 := zz.2.2.1.2.2.1
 let v15 := zz.2.2.1.2.2.2.1
 br (decide (v1 < v0))
 (req (zq751 v1 (lenL v11)) <|
 (geti v11 v1).bind fun p1 =>
 (zq949 p1 v8).bind fun y2 =>
 br y2.1
 (some (Sum.inl (((v1,()),()),(v2,v3,(v4,v5,v6,v7,()),(v8,()),v9,(v10,()),v11,(v12,v13,v14,v15,()),()))))
 (req (i64ok (v1 + 1)) <|
 rec (((),(),(v0,()),(v1 + 1,()),()),(v2,v3,(v4,v5,v6,v7,()),(v8,()),v9,(v10,()),v11,(v12,v13,v14,v15,()),()))))
 (some (Sum.inr (((),(v2,v3,(v4,v5,v6,v7,()),(v8,()),v9,(v10,()),v11,(v12,v13,v14,v15,()),())))))
abbrev lease_Raw_slices_BinarySearchFunc___api_Lease_api_Lease_api_Lease__L3_A := ((Unit × Unit × Unit × (Int × Unit) × (Int × Unit) × (Int × Unit) × Unit) × (List Ad × List Ls × (Bool × Int × Int × Int × Unit) × (ByteArray × Unit) × List Ls × (Ad × Unit) × List Ls × (Bool × Int × Int × Int × Unit) × (Ad × Unit) × (Ls × Unit) × (Ls × Unit) × Unit))
abbrev lease_Raw_slices_BinarySearchFunc___api_Lease_api_Lease_api_Lease__L3_B := Option ((Unit × Unit × Unit × (Int × Unit) × (Int × Unit) × Unit) × (List Ad × List Ls × (Bool × Int × Int × Int × Unit) × (ByteArray × Unit) × List Ls × (Ad × Unit) × List Ls × (Bool × Int × Int × Int × Unit) × (Ad × Unit) × (Ls × Unit) × (Ls × Unit) × Unit))
def zq961 (rec : lease_Raw_slices_BinarySearchFunc___api_Lease_api_Lease_api_Lease__L3_A → lease_Raw_slices_BinarySearchFunc___api_Lease_api_Lease_api_Lease__L3_B) (x : lease_Raw_slices_BinarySearchFunc___api_Lease_api_Lease_api_Lease__L3_A) : lease_Raw_slices_BinarySearchFunc___api_Lease_api_Lease_api_Lease__L3_B :=
 let v0 := x.1.2.2.2.1.1
 let v1 := x.1.2.2.2.2.1.1
 let v2 := x.1.2.2.2.2.2.1.1
 let v3 := x.2.1
 let v4 := x.2.2.1
 let v5 := x.2.2.2.1.1
 let v6 := x.2.2.2.1.2.1
 let v7 := x.2.2.2.1.2.2.1
 let v8 := x.2.2.2.1.2.2.2.1
 let v9 := x.2.2.2.2.1.1
 let v10 := x.2.2.2.2.2.1
 let v11 := x.2.2.2.2.2.2.1.1
 let zz := x.2.2.2.2.2.2.2
 let v12 := zz.1
 let v13 := zz.2.1.1
 let v14 := zz.2.1.2.1
 let v15 := zz.2.1.2.2.1
 let v16 := zz.2.1.2.2.2.1
 let v17 := zz.2.2.1.1
 let v18 := zz.2.2.2.1.1
 let v19 := zz.2.2.2.2.1.1
 br (decide (v1 < v2))
 (req (i64ok (v1 + v2)) <|
 req (zq751 (convI .i64 (aop .shr .u64 (convI .u64 (v1 + v2)) 1)) (lenL v12)) <|
 (geti v12 (convI .i64 (aop .shr .u64 (convI .u64 (v1 + v2)) 1))).bind fun p1 =>
 (zq954 p1 v19).bind fun y2 =>
 br (decide (y2.1 < 0))
 (req (i64ok ((convI .i64 (aop .shr .u64 (convI .u64 (v1 + v2)) 1)) + 1)) <|
 rec (((),(),(),(v0,()),((convI .i64 (aop .shr .u64 (convI .u64 (v1 + v2)) 1)) + 1,()),(v2,()),()),(v3,v4,(v5,v6,v7,v8,()),(v9,()),v10,(v11,()),v12,(v13,v14,v15,v16,()),(v17,()),(v18,()),(v19,()),())))
 (rec (((),(),(),(v0,()),(v1,()),(convI .i64 (aop .shr .u64 (convI .u64 (v1 + v2)) 1),()),()),(v3,v4,(v5,v6,v7,v8,()),(v9,()),v10,(v11,()),v12,(v13,v14,v15,v16,()),(v17,()),(v18,()),(v19,()),()))))
 (some (((),(),(),(v0,()),(v1,()),()),(v3,v4,(v5,v6,v7,v8,()),(v9,()),v10,(v11,()),v12,(v13,v14,v15,v16,()),(v17,()),(v18,()),(v19,()),())))
abbrev lease_Raw_slices_BinarySearchFunc___api_Lease_api_Lease_api_Lease__1_L3_A := ((Unit × Unit × Unit × (Int × Unit) × (Int × Unit) × (Int × Unit) × Unit) × (List Ad × List Ls × (Bool × Int × Int × Int × Unit) × (ByteArray × Unit) × List Ls × (Ad × Unit) × List Ls × (Bool × Int × Int × Int × Unit) × (Ad × Unit) × (Ls × Unit) × (Ls × Unit) × Unit))
abbrev lease_Raw_slices_BinarySearchFunc___api_Lease_api_Lease_api_Lease__1_L3_B := Option ((Unit × Unit × Unit × (Int × Unit) × (Int × Unit) × Unit) × (List Ad × List Ls × (Bool × Int × Int × Int × Unit) × (ByteArray × Unit) × List Ls × (Ad × Unit) × List Ls × (Bool × Int × Int × Int × Unit) × (Ad × Unit) × (Ls × Unit) × (Ls × Unit) × Unit))
def zq960 (rec : lease_Raw_slices_BinarySearchFunc___api_Lease_api_Lease_api_Lease__1_L3_A → lease_Raw_slices_BinarySearchFunc___api_Lease_api_Lease_api_Lease__1_L3_B) (x : lease_Raw_slices_BinarySearchFunc___api_Lease_api_Lease_api_Lease__1_L3_A) : lease_Raw_slices_BinarySearchFunc___api_Lease_api_Lease_api_Lease__1_L3_B :=
 let v0 := x.1.2.2.2.1.1
 let v1 := x.1.2.2.2.2.1.1
 let v2 := x.1.2.2.2.2.2.1.1
 let v3 := x.2.1
 let v4 := x.2.2.1
 let v5 := x.2.2.2.1.1
 let v6 := x.2.2.2.1.2.1
 let v7 := x.2.2.2.1.2.2.1
 let v8 := x.2.2.2.1.2.2.2.1
 let v9 := x.2.2.2.2.1.1
 let v10 := x.2.2.2.2.2.1
 let v11 := x.2.2.2.2.2.2.1.1
 let zz := x.2.2.2.2.2.2.2
 let v12 := zz.1
 let v13 := zz.2.1.1
 let v14 := zz.2.1.2.1
 let v15 := zz.2.1.2.2.1
 let v16 := zz.2.1.2.2.2.1
 let v17 := zz.2.2.1.1
 let v18 := zz.2.2.2.1.1
 let v19 := zz.2.2.2.2.1.1
 br (decide (v1 < v2))
 (req (i64ok (v1 + v2)) <|
 req (zq751 (convI .i64 (aop .shr .u64 (convI .u64 (v1 + v2)) 1)) (lenL v12)) <|
 (geti v12 (convI .i64 (aop .shr .u64 (convI .u64 (v1 + v2)) 1))).bind fun p1 =>
 (zq954 p1 v19).bind fun y2 =>
 br (decide (y2.1 < 0))
 (req (i64ok ((convI .i64 (aop .shr .u64 (convI .u64 (v1 + v2)) 1)) + 1)) <|
 rec (((),(),(),(v0,()),((convI .i64 (aop .shr .u64 (convI .u64 (v1 + v2)) 1)) + 1,()),(v2,()),()),(v3,v4,(v5,v6,v7,v8,()),(v9,()),v10,(v11,()),v12,(v13,v14,v15,v16,()),(v17,()),(v18,()),(v19,()),())))
 (rec (((),(),(),(v0,()),(v1,()),(convI .i64 (aop .shr .u64 (convI .u64 (v1 + v2)) 1),()),()),(v3,v4,(v5,v6,v7,v8,()),(v9,()),v10,(v11,()),v12,(v13,v14,v15,v16,()),(v17,()),(v18,()),(v19,()),()))))
 (some (((),(),(),(v0,()),(v1,()),()),(v3,v4,(v5,v6,v7,v8,()),(v9,()),v10,(v11,()),v12,(v13,v14,v15,v16,()),(v17,()),(v18,()),(v19,()),())))
def zq973 (a0 : Pf) (a1 : List Ad) (a2 : List Ls) (a3 : ByteArray) (a4 : Int) (a5 : Int) : Option ((List Ls) × Ad × Bool × Unit) :=
 (zq938 a2 a4).bind fun y1 =>
 (loopN zq967 FUEL (((()),(()),(lenL y1.1,()),(0,()),()),(a1,a2,(a0.ad.v6,a0.ad.hi,a0.ad.lo,a0.bits,()),(a3,()),([] : List Ls),((⟨false,0,0⟩ : Ad),()),y1.1,(a0.ad.v6,a0.ad.hi,a0.ad.lo,a0.bits,()),()))).bind fun y2 =>
 sumC y2 (fun y3 =>
 br (decide (y3.1.1.1 ≥ 0))
 (req (i64ok (a4 + a5)) <|
 req (zq751 y3.1.1.1 (lenL y3.2.2.2.2.2.2.2.1)) <|
 req (zq751 y3.1.1.1 (lenL y3.2.2.2.2.2.2.2.1)) <|
 (geti y3.2.2.2.2.2.2.2.1 y3.1.1.1).bind fun p4 =>
 req (zq751 y3.1.1.1 (lenL (seti y3.2.2.2.2.2.2.2.1 y3.1.1.1 (⟨p4.ad,p4.who,a4 + a5⟩ : Ls)))) <|
 req (zq751 y3.1.1.1 (lenL (seti y3.2.2.2.2.2.2.2.1 y3.1.1.1 (⟨p4.ad,p4.who,a4 + a5⟩ : Ls)))) <|
 (geti (seti y3.2.2.2.2.2.2.2.1 y3.1.1.1 (⟨p4.ad,p4.who,a4 + a5⟩ : Ls)) y3.1.1.1).bind fun p5 =>
 some (seti y3.2.2.2.2.2.2.2.1 y3.1.1.1 (⟨p4.ad,p4.who,a4 + a5⟩ : Ls),p5.ad,true,()))
 ((zq174 (⟨(⟨y3.2.2.2.2.2.2.2.2.1.1,y3.2.2.2.2.2.2.2.2.1.2.1,y3.2.2.2.2.2.2.2.2.1.2.2.1⟩ : Ad),y3.2.2.2.2.2.2.2.2.1.2.2.2.1⟩ : Pf) y3.2.1 y3.2.2.2.2.2.2.2.1).bind fun y4 =>
 br (!y4.2.1)
 (some (([] : List Ls),y4.1,false,()))
 (req (i64ok (a4 + a5)) <|
 ((loopN zq961 FUEL (((()),(()),(()),(lenL y3.2.2.2.2.2.2.2.1,()),(0,()),(lenL y3.2.2.2.2.2.2.2.1,()),()),(y3.2.1,y3.2.2.1,(y3.2.2.2.1.1,y3.2.2.2.1.2.1,y3.2.2.2.1.2.2.1,y3.2.2.2.1.2.2.2.1,()),(y3.2.2.2.2.1.1,()),y3.2.2.2.2.2.1,(y3.2.2.2.2.2.2.1.1,()),y3.2.2.2.2.2.2.2.1,(y3.2.2.2.2.2.2.2.2.1.1,y3.2.2.2.2.2.2.2.2.1.2.1,y3.2.2.2.2.2.2.2.2.1.2.2.1,y3.2.2.2.2.2.2.2.2.1.2.2.2.1,()),(y4.1,()),((⟨y4.1,y3.2.2.2.2.1.1,a4 + a5⟩ : Ls),()),((⟨y4.1,y3.2.2.2.2.1.1,a4 + a5⟩ : Ls),()),()))).bind fun y5 =>
 br (decide (y5.1.2.2.2.2.1.1 < y5.1.2.2.2.1.1))
 (req (zq751 y5.1.2.2.2.2.1.1 (lenL y5.2.2.2.2.2.2.2.1)) <|
 (geti y5.2.2.2.2.2.2.2.1 y5.1.2.2.2.2.1.1).bind fun p6 =>
 (zq954 p6 y5.2.2.2.2.2.2.2.2.2.2.2.1.1).bind fun y7 =>
 some (y5.1.2.2.2.2.1.1,decide (y7.1 = 0),()))
 (some (y5.1.2.2.2.2.1.1,false,()))).bind fun y6 =>
 both
 (dup 1 <|
 req (decide (0 ≤ y6.1) && decide (y6.1 ≤ lenL y3.2.2.2.2.2.2.2.1) && room (lenL y3.2.2.2.2.2.2.2.1) 1) <|
 some (insL y3.2.2.2.2.2.2.2.1 y6.1 (⟨y4.1,y3.2.2.2.2.1.1,a4 + a5⟩ : Ls),y4.1,true,()))
 (req (decide (0 ≤ y6.1) && decide (y6.1 ≤ lenL y3.2.2.2.2.2.2.2.1) && room (lenL y3.2.2.2.2.2.2.2.1) 1) <|
 some (insL y3.2.2.2.2.2.2.2.1 y6.1 (⟨y4.1,y3.2.2.2.2.1.1,a4 + a5⟩ : Ls),y4.1,true,()))))) (fun y7 =>
 (zq174 (⟨(⟨y7.2.2.2.2.2.2.2.2.1.1,y7.2.2.2.2.2.2.2.2.1.2.1,y7.2.2.2.2.2.2.2.2.1.2.2.1⟩ : Ad),y7.2.2.2.2.2.2.2.2.1.2.2.2.1⟩ : Pf) y7.2.1 y7.2.2.2.2.2.2.2.1).bind fun y8 =>
 br (!y8.2.1)
 (some (([] : List Ls),y8.1,false,()))
 (req (i64ok (a4 + a5)) <|
 ((loopN zq960 FUEL (((()),(()),(()),(lenL y7.2.2.2.2.2.2.2.1,()),(0,()),(lenL y7.2.2.2.2.2.2.2.1,()),()),(y7.2.1,y7.2.2.1,(y7.2.2.2.1.1,y7.2.2.2.1.2.1,y7.2.2.2.1.2.2.1,y7.2.2.2.1.2.2.2.1,()),(y7.2.2.2.2.1.1,()),y7.2.2.2.2.2.1,(y7.2.2.2.2.2.2.1.1,()),y7.2.2.2.2.2.2.2.1,(y7.2.2.2.2.2.2.2.2.1.1,y7.2.2.2.2.2.2.2.2.1.2.1,y7.2.2.2.2.2.2.2.2.1.2.2.1,y7.2.2.2.2.2.2.2.2.1.2.2.2.1,()),(y8.1,()),((⟨y8.1,y7.2.2.2.2.1.1,a4 + a5⟩ : Ls),()),((⟨y8.1,y7.2.2.2.2.1.1,a4 + a5⟩ : Ls),()),()))).bind fun y9 =>
 br (decide (y9.1.2.2.2.2.1.1 < y9.1.2.2.2.1.1))
 (req (zq751 y9.1.2.2.2.2.1.1 (lenL y9.2.2.2.2.2.2.2.1)) <|
 (geti y9.2.2.2.2.2.2.2.1 y9.1.2.2.2.2.1.1).bind fun p10 =>
 (zq954 p10 y9.2.2.2.2.2.2.2.2.2.2.2.1.1).bind fun y11 =>
 some (y9.1.2.2.2.2.1.1,decide (y11.1 = 0),()))
 (some (y9.1.2.2.2.2.1.1,false,()))).bind fun y10 =>
 both
 (dup 1 <|
 req (decide (0 ≤ y10.1) && decide (y10.1 ≤ lenL y7.2.2.2.2.2.2.2.1) && room (lenL y7.2.2.2.2.2.2.2.1) 1) <|
 some (insL y7.2.2.2.2.2.2.2.1 y10.1 (⟨y8.1,y7.2.2.2.2.1.1,a4 + a5⟩ : Ls),y8.1,true,()))
 (req (decide (0 ≤ y10.1) && decide (y10.1 ≤ lenL y7.2.2.2.2.2.2.2.1) && room (lenL y7.2.2.2.2.2.2.2.1) 1) <|
 some (insL y7.2.2.2.2.2.2.2.1 y10.1 (⟨y8.1,y7.2.2.2.2.1.1,a4 + a5⟩ : Ls),y8.1,true,()))))
abbrev state_Raw___state_doer__do___state_doer__pool_slices_ContainsFunc___api_Pool_api_Pool__slices_IndexFunc___api_Pool_api_Pool__L2_A := ((Unit × Unit × (Int × Unit) × (Int × Unit) × Unit) × (List (List Ad) × List Pf × List Ls × (Int × Unit) × (Oq × Unit) × (Int × Unit) × List (List Ad) × List Pf × List Ls × (Ad × Unit) × List (List Ad) × List Pf × List Ls × (Int × Unit) × (Oq × Unit) × (Ad × Unit) × (Pf × Unit) × Unit))
abbrev state_Raw___state_doer__do___state_doer__pool_slices_ContainsFunc___api_Pool_api_Pool__slices_IndexFunc___api_Pool_api_Pool__L2_B := Option ((((Int × Unit) × Unit) × (List (List Ad) × List Pf × List Ls × (Int × Unit) × (Oq × Unit) × (Int × Unit) × List (List Ad) × List Pf × List Ls × (Ad × Unit) × List (List Ad) × List Pf × List Ls × (Int × Unit) × (Oq × Unit) × (Ad × Unit) × (Pf × Unit) × Unit)) ⊕ (Unit × (List (List Ad) × List Pf × List Ls × (Int × Unit) × (Oq × Unit) × (Int × Unit) × List (List Ad) × List Pf × List Ls × (Ad × Unit) × List (List Ad) × List Pf × List Ls × (Int × Unit) × (Oq × Unit) × (Ad × Unit) × (Pf × Unit) × Unit)))
def zq1702 (rec : state_Raw___state_doer__do___state_doer__pool_slices_ContainsFunc___api_Pool_api_Pool__slices_IndexFunc___api_Pool_api_Pool__L2_A → state_Raw___state_doer__do___state_doer__pool_slices_ContainsFunc___api_Pool_api_Pool__slices_IndexFunc___api_Pool_api_Pool__L2_B) (x : state_Raw___state_doer__do___state_doer__pool_slices_ContainsFunc___api_Pool_api_Pool__slices_IndexFunc___api_Pool_api_Pool__L2_A) : state_Raw___state_doer__do___state_doer__pool_slices_ContainsFunc___api_Pool_api_Pool__slices_IndexFunc___api_Pool_api_Pool__L2_B :=
 let v0 := x.1.2.2.1.1
 let v1 := x.1.2.2.2.1.1
 let v2 := x.2.1
 let v3 := x.2.2.1
 let v4 := x.2.2.2.1
 let v5 := x.2.2.2.2.1.1
 let v6 := x.2.2.2.2.2.1.1
 let v7 := x.2.2.2.2.2.2.1.1
 let v8 := x.2.2.2.2.2.2.2.1
 let v9 := x.2.2.2.2.2.2.2.2.1
 let zz := x.2.2.2.2.2.2.2.2.2
 let v10 := zz.1
 let v11 := zz.2.1.1
 let v12 := zz.2.2.1
 let v13 := zz.2.2.2.1
 let v14 := zz.2.2.2.2.1
 let v15 := zz.2.2.2.2.2.1.1
 let v16 := zz.2.2.2.2.2.2.1.1
 let v17 := zz.2.2.2.2.2.2.2.1.1
 let v18 := zz.2.2.2.2.2.2.2.2.1.1
 br (decide (v1 < v0))
 (req (zq751 v1 (lenL v13)) <|
 (geti v13 v1).bind fun p1 =>
 (zq214 p1 (getL v12 v1) v18).bind fun y2 =>
 br y2.1
 (some (Sum.inl (((v1,()),()),(v2,v3,v4,(v5,()),(v6,()),(v7,()),v8,v9,v10,(v11,()),v12,v13,v14,(v15,()),(v16,()),(v17,()),(v18,()),()))))
 (req (i64ok (v1 + 1)) <|
 rec (((),(),(v0,()),(v1 + 1,()),()),(v2,v3,v4,(v5,()),(v6,()),(v7,()),v8,v9,v10,(v11,()),v12,v13,v14,(v15,()),(v16,()),(v17,()),(v18,()),()))))
 (some (Sum.inr (((),(v2,v3,v4,(v5,()),(v6,()),(v7,()),v8,v9,v10,(v11,()),v12,v13,v14,(v15,()),(v16,()),(v17,()),(v18,()),())))))
abbrev state_Raw___state_doer__do___state_doer__pool_slices_BinarySearchFunc___api_Pool_api_Pool_api_Prefix__L3_A := ((Unit × Unit × Unit × (Int × Unit) × (Int × Unit) × (Int × Unit) × Unit) × (List (List Ad) × List Pf × List Ls × (Int × Unit) × (Oq × Unit) × (Int × Unit) × List (List Ad) × List Pf × List Ls × (Ad × Unit) × List (List Ad) × List Pf × List Ls × (Int × Unit) × (Oq × Unit) × (Ad × Unit) × (Pf × Unit) × (Pf × Unit) × Unit))
abbrev state_Raw___state_doer__do___state_doer__pool_slices_BinarySearchFunc___api_Pool_api_Pool_api_Prefix__L3_B := Option ((Unit × Unit × Unit × (Int × Unit) × (Int × Unit) × Unit) × (List (List Ad) × List Pf × List Ls × (Int × Unit) × (Oq × Unit) × (Int × Unit) × List (List Ad) × List Pf × List Ls × (Ad × Unit) × List (List Ad) × List Pf × List Ls × (Int × Unit) × (Oq × Unit) × (Ad × Unit) × (Pf × Unit) × (Pf × Unit) × Unit))
def zq1693 (rec : state_Raw___state_doer__do___state_doer__pool_slices_BinarySearchFunc___api_Pool_api_Pool_api_Prefix__L3_A → state_Raw___state_doer__do___state_doer__pool_slices_BinarySearchFunc___api_Pool_api_Pool_api_Prefix__L3_B) (x : state_Raw___state_doer__do___state_doer__pool_slices_BinarySearchFunc___api_Pool_api_Pool_api_Prefix__L3_A) : state_Raw___state_doer__do___state_doer__pool_slices_BinarySearchFunc___api_Pool_api_Pool_api_Prefix__L3_B :=
 let v0 := x.1.2.2.2.1.1
 let v1 := x.1.2.2.2.2.1.1
 let v2 := x.1.2.2.2.2.2.1.1
 let v3 := x.2.1
 let v4 := x.2.2.1
 let v5 := x.2.2.2.1
 let v6 := x.2.2.2.2.1.1
 let v7 := x.2.2.2.2.2.1.1
 let v8 := x.2.2.2.2.2.2.1.1
 let v9 := x.2.2.2.2.2.2.2.1
 let v10 := x.2.2.2.2.2.2.2.2.1
 let zz := x.2.2.2.2.2.2.2.2.2
 let v11 := zz.1
 let v12 := zz.2.1.1
 let v13 := zz.2.2.1
 let v14 := zz.2.2.2.1
 let v15 := zz.2.2.2.2.1
 let v16 := zz.2.2.2.2.2.1.1
 let v17 := zz.2.2.2.2.2.2.1.1
 let v18 := zz.2.2.2.2.2.2.2.1.1
 let v19 := zz.2.2.2.2.2.2.2.2.1.1
 let v20 := zz.2.2.2.2.2.2.2.2.2.1.1
 br (decide (v1 < v2))
 (req (i64ok (v1 + v2)) <|
 req (zq751 (convI .i64 (aop .shr .u64 (convI .u64 (v1 + v2)) 1)) (lenL v14)) <|
 (geti v14 (convI .i64 (aop .shr .u64 (convI .u64 (v1 + v2)) 1))).bind fun p1 =>
 (zq219 p1 (getL v13 (convI .i64 (aop .shr .u64 (convI .u64 (v1 + v2)) 1))) v20).bind fun y2 =>
 br (decide (y2.1 < 0))
 (req (i64ok ((convI .i64 (aop .shr .u64 (convI .u64 (v1 + v2)) 1)) + 1)) <|
 rec (((),(),(),(v0,()),((convI .i64 (aop .shr .u64 (convI .u64 (v1 + v2)) 1)) + 1,()),(v2,()),()),(v3,v4,v5,(v6,()),(v7,()),(v8,()),v9,v10,v11,(v12,()),v13,v14,v15,(v16,()),(v17,()),(v18,()),(v19,()),(v20,()),())))
 (rec (((),(),(),(v0,()),(v1,()),(convI .i64 (aop .shr .u64 (convI .u64 (v1 + v2)) 1),()),()),(v3,v4,v5,(v6,()),(v7,()),(v8,()),v9,v10,v11,(v12,()),v13,v14,v15,(v16,()),(v17,()),(v18,()),(v19,()),(v20,()),()))))
 (some (((),(),(),(v0,()),(v1,()),()),(v3,v4,v5,(v6,()),(v7,()),(v8,()),v9,v10,v11,(v12,()),v13,v14,v15,(v16,()),(v17,()),(v18,()),(v19,()),(v20,()),())))
abbrev state_Raw___state_doer__do___state_doer__pool_slices_BinarySearchFunc___api_Pool_api_Pool_api_Prefix__1_L3_A := ((Unit × Unit × Unit × (Int × Unit) × (Int × Unit) × (Int × Unit) × Unit) × (List (List Ad) × List Pf × List Ls × (Int × Unit) × (Oq × Unit) × (Int × Unit) × List (List Ad) × List Pf × List Ls × (Ad × Unit) × List (List Ad) × List Pf × List Ls × (Int × Unit) × (Oq × Unit) × (Ad × Unit) × (Pf × Unit) × (Pf × Unit) × Unit))
abbrev state_Raw___state_doer__do___state_doer__pool_slices_BinarySearchFunc___api_Pool_api_Pool_api_Prefix__1_L3_B := Option ((Unit × Unit × Unit × (Int × Unit) × (Int × Unit) × Unit) × (List (List Ad) × List Pf × List Ls × (Int × Unit) × (Oq × Unit) × (Int × Unit) × List (List Ad) × List Pf × List Ls × (Ad × Unit) × List (List Ad) × List Pf × List Ls × (Int × Unit) × (Oq × Unit) × (Ad × Unit) × (Pf × Unit) × (Pf × Unit) × Unit))
def zq1692 (rec : state_Raw___state_doer__do___state_doer__pool_slices_BinarySearchFunc___api_Pool_api_Pool_api_Prefix__1_L3_A → state_Raw___state_doer__do___state_doer__pool_slices_BinarySearchFunc___api_Pool_api_Pool_api_Prefix__1_L3_B) (x : state_Raw___state_doer__do___state_doer__pool_slices_BinarySearchFunc___api_Pool_api_Pool_api_Prefix__1_L3_A) : state_Raw___state_doer__do___state_doer__pool_slices_BinarySearchFunc___api_Pool_api_Pool_api_Prefix__1_L3_B :=
 let v0 := x.1.2.2.2.1.1
 let v1 := x.1.2.2.2.2.1.1
 let v2 := x.1.2.2.2.2.2.1.1
 let v3 := x.2.1
 let v4 := x.2.2.1
 let v5 := x.2.2.2.1
 let v6 := x.2.2.2.2.1.1
 let v7 := x.2.2.2.2.2.1.1
 let v8 := x.2.2.2.2.2.2.1.1
 let v9 := x.2.2.2.2.2.2.2.1
 let v10 := x.2.2.2.2.2.2.2.2.1
 let zz := x.2.2.2.2.2.2.2.2.2
 let v11 := zz.1
 let v12 := zz.2.1.1
 let v13 := zz.2.2.1
 let v14 := zz.2.2.2.1
 let v15 := zz.2.2.2.2.1
 let v16 := zz.2.2.2.2.2.1.1
 let v17 := zz.2.2.2.2.2.2.1.1
 let v18 := zz.2.2.2.2.2.2.2.1.1
 let v19 := zz.2.2.2.2.2.2.2.2.1.1
 let v20 := zz.2.2.2.2.2.2.2.2.2.1.1
 br (decide (v1 < v2))
 (req (i64ok (v1 + v2)) <|
 req (zq751 (convI .i64 (aop .shr .u64 (convI .u64 (v1 + v2)) 1)) (lenL v14)) <|
 (geti v14 (convI .i64 (aop .shr .u64 (convI .u64 (v1 + v2)) 1))).bind fun p1 =>
 (zq219 p1 (getL v13 (convI .i64 (aop .shr .u64 (convI .u64 (v1 + v2)) 1))) v20).bind fun y2 =>
 br (decide (y2.1 < 0))
 (req (i64ok ((convI .i64 (aop .shr .u64 (convI .u64 (v1 + v2)) 1)) + 1)) <|
 rec (((),(),(),(v0,()),((convI .i64 (aop .shr .u64 (convI .u64 (v1 + v2)) 1)) + 1,()),(v2,()),()),(v3,v4,v5,(v6,()),(v7,()),(v8,()),v9,v10,v11,(v12,()),v13,v14,v15,(v16,()),(v17,()),(v18,()),(v19,()),(v20,()),())))
 (rec (((),(),(),(v0,()),(v1,()),(convI .i64 (aop .shr .u64 (convI .u64 (v1 + v2)) 1),()),()),(v3,v4,v5,(v6,()),(v7,()),(v8,()),v9,v10,v11,(v12,()),v13,v14,v15,(v16,()),(v17,()),(v18,()),(v19,()),(v20,()),()))))
 (some (((),(),(),(v0,()),(v1,()),()),(v3,v4,v5,(v6,()),(v7,()),(v8,()),v9,v10,v11,(v12,()),v13,v14,v15,(v16,()),(v17,()),(v18,()),(v19,()),(v20,()),())))
abbrev state_Raw___state_doer__do___state_doer__keep_slices_BinarySearchFunc___api_Addr_api_Addr_api_Addr__L3_A := (((Int × Unit) × Unit × Unit × (Int × Unit) × (Int × Unit) × (Int × Unit) × Unit) × (List (List Ad) × List Pf × List Ls × (Int × Unit) × (Oq × Unit) × (Int × Unit) × List (List Ad) × List Pf × List Ls × (Ad × Unit) × List (List Ad) × List Pf × List Ls × (Int × Unit) × (Oq × Unit) × (Ad × Unit) × (Ad × Unit) × (Ad × Unit) × Unit))
abbrev state_Raw___state_doer__do___state_doer__keep_slices_BinarySearchFunc___api_Addr_api_Addr_api_Addr__L3_B := Option (((Int × Unit) × Unit × Unit × (Int × Unit) × (Int × Unit) × Unit) × (List (List Ad) × List Pf × List Ls × (Int × Unit) × (Oq × Unit) × (Int × Unit) × List (List Ad) × List Pf × List Ls × (Ad × Unit) × List (List Ad) × List Pf × List Ls × (Int × Unit) × (Oq × Unit) × (Ad × Unit) × (Ad × Unit) × (Ad × Unit) × Unit))
def zq1683 (rec : state_Raw___state_doer__do___state_doer__keep_slices_BinarySearchFunc___api_Addr_api_Addr_api_Addr__L3_A → state_Raw___state_doer__do___state_doer__keep_slices_BinarySearchFunc___api_Addr_api_Addr_api_Addr__L3_B) (x : state_Raw___state_doer__do___state_doer__keep_slices_BinarySearchFunc___api_Addr_api_Addr_api_Addr__L3_A) : state_Raw___state_doer__do___state_doer__keep_slices_BinarySearchFunc___api_Addr_api_Addr_api_Addr__L3_B :=
 let v0 := x.1.1.1
 let v1 := x.1.2.2.2.1.1
 let v2 := x.1.2.2.2.2.1.1
 let v3 := x.1.2.2.2.2.2.1.1
 let v4 := x.2.1
 let v5 := x.2.2.1
 let v6 := x.2.2.2.1
 let v7 := x.2.2.2.2.1.1
 let v8 := x.2.2.2.2.2.1.1
 let v9 := x.2.2.2.2.2.2.1.1
 let v10 := x.2.2.2.2.2.2.2.1
 let v11 := x.2.2.2.2.2.2.2.2.1
 let zz := x.2.2.2.2.2.2.2.2.2
 let v12 := zz.1
 let v13 := zz.2.1.1
 let v14 := zz.2.2.1
 let v15 := zz.2.2.2.1
 let v16 := zz.2.2.2.2.1
 let v17 := zz.2.2.2.2.2.1.1
 let v18 := zz.2.2.2.2.2.2.1.1
 let v19 := zz.2.2.2.2.2.2.2.1.1
 let v20 := zz.2.2.2.2.2.2.2.2.1.1
 let v21 := zz.2.2.2.2.2.2.2.2.2.1.1
 br (decide (v2 < v3))
 (req (i64ok (v2 + v3)) <|
 req (zq751 (convI .i64 (aop .shr .u64 (convI .u64 (v2 + v3)) 1)) (lenL (getL v14 v0))) <|
 (geti (getL v14 v0) (convI .i64 (aop .shr .u64 (convI .u64 (v2 + v3)) 1))).bind fun p1 =>
 (zq262 p1 v21).bind fun y2 =>
 br (decide (y2.1 < 0))
 (req (i64ok ((convI .i64 (aop .shr .u64 (convI .u64 (v2 + v3)) 1)) + 1)) <|
 rec (((v0,()),(),(),(v1,()),((convI .i64 (aop .shr .u64 (convI .u64 (v2 + v3)) 1)) + 1,()),(v3,()),()),(v4,v5,v6,(v7,()),(v8,()),(v9,()),v10,v11,v12,(v13,()),v14,v15,v16,(v17,()),(v18,()),(v19,()),(v20,()),(v21,()),())))
 (rec (((v0,()),(),(),(v1,()),(v2,()),(convI .i64 (aop .shr .u64 (convI .u64 (v2 + v3)) 1),()),()),(v4,v5,v6,(v7,()),(v8,()),(v9,()),v10,v11,v12,(v13,()),v14,v15,v16,(v17,()),(v18,()),(v19,()),(v20,()),(v21,()),()))))
 (some (((v0,()),(),(),(v1,()),(v2,()),()),(v4,v5,v6,(v7,()),(v8,()),(v9,()),v10,v11,v12,(v13,()),v14,v15,v16,(v17,()),(v18,()),(v19,()),(v20,()),(v21,()),())))
abbrev state_Raw___state_doer__do___state_doer__grant_L9_A := ((Unit × (ByteArray × Unit) × (Int × Unit) × Unit × Unit × Unit × Unit × Unit × (Int × Unit) × (Int × Unit) × Unit) × (List (List Ad) × List Pf × List Ls × (Int × Unit) × (Oq × Unit) × (Int × Unit) × List (List Ad) × List Pf × List Ls × (Ad × Unit) × List (List Ad) × List Pf × List Ls × (Int × Unit) × (Oq × Unit) × (Ad × Unit) × (Ad × Unit) × (Bool × Int × Int × Int × Int × Unit) × List Ls × List Ls × Unit))
abbrev state_Raw___state_doer__do___state_doer__grant_L9_B := Option ((Unit × (ByteArray × Unit) × (Int × Unit) × Unit × Unit × Unit × Unit × Unit) × (List (List Ad) × List Pf × List Ls × (Int × Unit) × (Oq × Unit) × (Int × Unit) × List (List Ad) × List Pf × List Ls × (Ad × Unit) × List (List Ad) × List Pf × List Ls × (Int × Unit) × (Oq × Unit) × (Ad × Unit) × (Ad × Unit) × (Bool × Int × Int × Int × Int × Unit) × List Ls × List Ls × Unit))
def zq1674 (rec : state_Raw___state_doer__do___state_doer__grant_L9_A → state_Raw___state_doer__do___state_doer__grant_L9_B) (x : state_Raw___state_doer__do___state_doer__grant_L9_A) : state_Raw___state_doer__do___state_doer__grant_L9_B :=
 let v0 := x.1.2.1.1
 let v1 := x.1.2.2.1.1
 let v2 := x.1.2.2.2.2.2.2.2.2.1.1
 let v3 := x.1.2.2.2.2.2.2.2.2.2.1.1
 let v4 := x.2.1
 let v5 := x.2.2.1
 let v6 := x.2.2.2.1
 let v7 := x.2.2.2.2.1.1
 let v8 := x.2.2.2.2.2.1.1
 let v9 := x.2.2.2.2.2.2.1.1
 let v10 := x.2.2.2.2.2.2.2.1
 let v11 := x.2.2.2.2.2.2.2.2.1
 let v12 := x.2.2.2.2.2.2.2.2.2.1
 let v13 := x.2.2.2.2.2.2.2.2.2.2.1.1
 let v14 := x.2.2.2.2.2.2.2.2.2.2.2.1
 let zz := x.2.2.2.2.2.2.2.2.2.2.2.2
 let v15 := zz.1
 let v16 := zz.2.1
 let v17 := zz.2.2.1.1
 let v18 := zz.2.2.2.1.1
 let v19 := zz.2.2.2.2.1.1
 let v20 := zz.2.2.2.2.2.1.1
 let v21 := zz.2.2.2.2.2.2.1.1
 let v22 := zz.2.2.2.2.2.2.1.2.1
 let v23 := zz.2.2.2.2.2.2.1.2.2.1
 let v24 := zz.2.2.2.2.2.2.1.2.2.2.1
 let v25 := zz.2.2.2.2.2.2.1.2.2.2.2.1
 let v26 := zz.2.2.2.2.2.2.2.1
 let v27 := zz.2.2.2.2.2.2.2.2.1
 br (decide (v3 < v2))
 (req (zq751 v3 (lenL v16)) <|
 (geti v16 v3).bind fun p1 =>
 (zq1326 (⟨(⟨v21,v22,v23⟩ : Ad),v24⟩ : Pf) p1.ad).bind fun y2 =>
 br y2.1
 (req (room (lenL v26) (lenL ([p1] : List Ls))) <|
 req (i64ok (v3 + 1)) <|
 rec (((),(v0,()),(v1,()),(),(),(),(),(),(v2,()),(v3 + 1,()),()),(v4,v5,v6,(v7,()),(v8,()),(v9,()),v10,v11,v12,(v13,()),v14,v15,v16,(v17,()),(v18,()),(v19,()),(v20,()),(v21,v22,v23,v24,v25,()),v26 ++ ([p1] : List Ls),v27,())))
 (req (room (lenL v27) (lenL ([p1] : List Ls))) <|
 req (i64ok (v3 + 1)) <|
 rec (((),(v0,()),(v1,()),(),(),(),(),(),(v2,()),(v3 + 1,()),()),(v4,v5,v6,(v7,()),(v8,()),(v9,()),v10,v11,v12,(v13,()),v14,v15,v16,(v17,()),(v18,()),(v19,()),(v20,()),(v21,v22,v23,v24,v25,()),v26,v27 ++ ([p1] : List Ls),()))))
 (some (((),(v0,()),(v1,()),(),(),(),(),()),(v4,v5,v6,(v7,()),(v8,()),(v9,()),v10,v11,v12,(v13,()),v14,v15,v16,(v17,()),(v18,()),(v19,()),(v20,()),(v21,v22,v23,v24,v25,()),v26,v27,())))
def zq1716 (a0 : List Pf × List (List Ad)) (a1 : List Ls) (a2 : Int) (a3 : Oq) : Option (((List Pf × List (List Ad)) × (List Ls) × Int × Unit) × Ad × Int × Unit) :=
 (zq1661 a3).bind fun y1 =>
 br (!decide (y1.1 = 0))
 (some (((([] : List Pf),([] : List (List Ad))),([] : List Ls),0,()),(⟨false,0,0⟩ : Ad),y1.1,()))
 ((zq1670 a0 a1 a2).bind fun y2 =>
 br (decide (a3.kind = 1))
 ((loopN zq1702 FUEL (((()),(()),(lenL y2.1.1.1,()),(0,()),()),(a0.2,a0.1,a1,(a2,()),(a3,()),(0,()),([] : List (List Ad)),([] : List Pf),([] : List Ls),((⟨false,0,0⟩ : Ad),()),y2.1.1.2,y2.1.1.1,y2.1.2.1,(y2.1.2.2.1,()),(a3,()),((⟨false,0,0⟩ : Ad),()),(a3.pf,()),()))).bind fun y3 =>
 sumC y3 (fun y4 =>
 br (decide (y4.1.1.1 ≥ 0))
 (some (((([] : List Pf),([] : List (List Ad))),([] : List Ls),0,()),(⟨false,0,0⟩ : Ad),6,()))
 (br (decide (lenL y4.2.2.2.2.2.2.2.2.2.2.2.2.1 = 3))
 (some (((([] : List Pf),([] : List (List Ad))),([] : List Ls),0,()),(⟨false,0,0⟩ : Ad),2,()))
 (((loopN zq1693 FUEL (((()),(()),(()),(lenL y4.2.2.2.2.2.2.2.2.2.2.2.2.1,()),(0,()),(lenL y4.2.2.2.2.2.2.2.2.2.2.2.2.1,()),()),(y4.2.1,y4.2.2.1,y4.2.2.2.1,(y4.2.2.2.2.1.1,()),(y4.2.2.2.2.2.1.1,()),(y4.2.2.2.2.2.2.1.1,()),y4.2.2.2.2.2.2.2.1,y4.2.2.2.2.2.2.2.2.1,y4.2.2.2.2.2.2.2.2.2.1,(y4.2.2.2.2.2.2.2.2.2.2.1.1,()),y4.2.2.2.2.2.2.2.2.2.2.2.1,y4.2.2.2.2.2.2.2.2.2.2.2.2.1,y4.2.2.2.2.2.2.2.2.2.2.2.2.2.1,(y4.2.2.2.2.2.2.2.2.2.2.2.2.2.2.1.1,()),(y4.2.2.2.2.2.2.2.2.2.2.2.2.2.2.2.1.1,()),(y4.2.2.2.2.2.2.2.2.2.2.2.2.2.2.2.2.1.1,()),(y4.2.2.2.2.2.2.2.2.2.2.2.2.2.2.2.2.2.1.1,()),(y4.2.2.2.2.2.2.2.2.2.2.2.2.2.2.2.2.2.1.1,()),()))).bind fun y5 =>
 br (decide (y5.1.2.2.2.2.1.1 < y5.1.2.2.2.1.1))
 (req (zq751 y5.1.2.2.2.2.1.1 (lenL y5.2.2.2.2.2.2.2.2.2.2.2.2.1)) <|
 (geti y5.2.2.2.2.2.2.2.2.2.2.2.2.1 y5.1.2.2.2.2.1.1).bind fun p6 =>
 (zq219 p6 (getL y5.2.2.2.2.2.2.2.2.2.2.2.1 y5.1.2.2.2.2.1.1) y5.2.2.2.2.2.2.2.2.2.2.2.2.2.2.2.2.2.2.1.1).bind fun y7 =>
 some (y5.1.2.2.2.2.1.1,decide (y7.1 = 0),()))
 (some (y5.1.2.2.2.2.1.1,false,()))).bind fun y6 =>
 both
 (both
 (both
 (dup 1 <|
 req (decide (0 ≤ y6.1) && decide (y6.1 ≤ lenL y4.2.2.2.2.2.2.2.2.2.2.2.2.1) && room (lenL y4.2.2.2.2.2.2.2.2.2.2.2.2.1) 1) <|
 some (((insL y4.2.2.2.2.2.2.2.2.2.2.2.2.1 y6.1 y4.2.2.2.2.2.2.2.2.2.2.2.2.2.2.2.2.2.1.1,insL (padL y4.2.2.2.2.2.2.2.2.2.2.2.2.1.length y4.2.2.2.2.2.2.2.2.2.2.2.1) y6.1 ([] : List Ad)),y4.2.2.2.2.2.2.2.2.2.2.2.2.2.1,y4.2.2.2.2.2.2.2.2.2.2.2.2.2.2.1.1,()),(⟨false,0,0⟩ : Ad),0,()))
 (req (decide (0 ≤ y6.1) && decide (y6.1 ≤ lenL y4.2.2.2.2.2.2.2.2.2.2.2.2.1) && room (lenL y4.2.2.2.2.2.2.2.2.2.2.2.2.1) 1) <|
 some (((insL y4.2.2.2.2.2.2.2.2.2.2.2.2.1 y6.1 y4.2.2.2.2.2.2.2.2.2.2.2.2.2.2.2.2.2.1.1,insL (padL y4.2.2.2.2.2.2.2.2.2.2.2.2.1.length y4.2.2.2.2.2.2.2.2.2.2.2.1) y6.1 ([] : List Ad)),y4.2.2.2.2.2.2.2.2.2.2.2.2.2.1,y4.2.2.2.2.2.2.2.2.2.2.2.2.2.2.1.1,()),(⟨false,0,0⟩ : Ad),0,())))
 (req (decide (0 ≤ y6.1) && decide (y6.1 ≤ lenL y4.2.2.2.2.2.2.2.2.2.2.2.2.1) && room (lenL y4.2.2.2.2.2.2.2.2.2.2.2.2.1) 1) <|
 some (((insL y4.2.2.2.2.2.2.2.2.2.2.2.2.1 y6.1 y4.2.2.2.2.2.2.2.2.2.2.2.2.2.2.2.2.2.1.1,insL (padL y4.2.2.2.2.2.2.2.2.2.2.2.2.1.length y4.2.2.2.2.2.2.2.2.2.2.2.1) y6.1 ([] : List Ad)),y4.2.2.2.2.2.2.2.2.2.2.2.2.2.1,y4.2.2.2.2.2.2.2.2.2.2.2.2.2.2.1.1,()),(⟨false,0,0⟩ : Ad),0,())))
 (req (decide (0 ≤ y6.1) && decide (y6.1 ≤ lenL y4.2.2.2.2.2.2.2.2.2.2.2.2.1) && room (lenL y4.2.2.2.2.2.2.2.2.2.2.2.2.1) 1) <|
 some (((insL y4.2.2.2.2.2.2.2.2.2.2.2.2.1 y6.1 y4.2.2.2.2.2.2.2.2.2.2.2.2.2.2.2.2.2.1.1,insL (padL y4.2.2.2.2.2.2.2.2.2.2.2.2.1.length y4.2.2.2.2.2.2.2.2.2.2.2.1) y6.1 ([] : List Ad)),y4.2.2.2.2.2.2.2.2.2.2.2.2.2.1,y4.2.2.2.2.2.2.2.2.2.2.2.2.2.2.1.1,()),(⟨false,0,0⟩ : Ad),0,()))))) (fun y7 =>
 br (decide (lenL y7.2.2.2.2.2.2.2.2.2.2.2.2.1 = 3))
 (some (((([] : List Pf),([] : List (List Ad))),([] : List Ls),0,()),(⟨false,0,0⟩ : Ad),2,()))
 (((loopN zq1692 FUEL (((()),(()),(()),(lenL y7.2.2.2.2.2.2.2.2.2.2.2.2.1,()),(0,()),(lenL y7.2.2.2.2.2.2.2.2.2.2.2.2.1,()),()),(y7.2.1,y7.2.2.1,y7.2.2.2.1,(y7.2.2.2.2.1.1,()),(y7.2.2.2.2.2.1.1,()),(y7.2.2.2.2.2.2.1.1,()),y7.2.2.2.2.2.2.2.1,y7.2.2.2.2.2.2.2.2.1,y7.2.2.2.2.2.2.2.2.2.1,(y7.2.2.2.2.2.2.2.2.2.2.1.1,()),y7.2.2.2.2.2.2.2.2.2.2.2.1,y7.2.2.2.2.2.2.2.2.2.2.2.2.1,y7.2.2.2.2.2.2.2.2.2.2.2.2.2.1,(y7.2.2.2.2.2.2.2.2.2.2.2.2.2.2.1.1,()),(y7.2.2.2.2.2.2.2.2.2.2.2.2.2.2.2.1.1,()),(y7.2.2.2.2.2.2.2.2.2.2.2.2.2.2.2.2.1.1,()),(y7.2.2.2.2.2.2.2.2.2.2.2.2.2.2.2.2.2.1.1,()),(y7.2.2.2.2.2.2.2.2.2.2.2.2.2.2.2.2.2.1.1,()),()))).bind fun y8 =>
 br (decide (y8.1.2.2.2.2.1.1 < y8.1.2.2.2.1.1))
 (req (zq751 y8.1.2.2.2.2.1.1 (lenL y8.2.2.2.2.2.2.2.2.2.2.2.2.1)) <|
 (geti y8.2.2.2.2.2.2.2.2.2.2.2.2.1 y8.1.2.2.2.2.1.1).bind fun p9 =>
 (zq219 p9 (getL y8.2.2.2.2.2.2.2.2.2.2.2.1 y8.1.2.2.2.2.1.1) y8.2.2.2.2.2.2.2.2.2.2.2.2.2.2.2.2.2.2.1.1).bind fun y10 =>
 some (y8.1.2.2.2.2.1.1,decide (y10.1 = 0),()))
 (some (y8.1.2.2.2.2.1.1,false,()))).bind fun y9 =>
 both
 (both
 (both
 (dup 1 <|
 req (decide (0 ≤ y9.1) && decide (y9.1 ≤ lenL y7.2.2.2.2.2.2.2.2.2.2.2.2.1) && room (lenL y7.2.2.2.2.2.2.2.2.2.2.2.2.1) 1) <|
 some (((insL y7.2.2.2.2.2.2.2.2.2.2.2.2.1 y9.1 y7.2.2.2.2.2.2.2.2.2.2.2.2.2.2.2.2.2.1.1,insL (padL y7.2.2.2.2.2.2.2.2.2.2.2.2.1.length y7.2.2.2.2.2.2.2.2.2.2.2.1) y9.1 ([] : List Ad)),y7.2.2.2.2.2.2.2.2.2.2.2.2.2.1,y7.2.2.2.2.2.2.2.2.2.2.2.2.2.2.1.1,()),(⟨false,0,0⟩ : Ad),0,()))
 (req (decide (0 ≤ y9.1) && decide (y9.1 ≤ lenL y7.2.2.2.2.2.2.2.2.2.2.2.2.1) && room (lenL y7.2.2.2.2.2.2.2.2.2.2.2.2.1) 1) <|
 some (((insL y7.2.2.2.2.2.2.2.2.2.2.2.2.1 y9.1 y7.2.2.2.2.2.2.2.2.2.2.2.2.2.2.2.2.2.1.1,insL (padL y7.2.2.2.2.2.2.2.2.2.2.2.2.1.length y7.2.2.2.2.2.2.2.2.2.2.2.1) y9.1 ([] : List Ad)),y7.2.2.2.2.2.2.2.2.2.2.2.2.2.1,y7.2.2.2.2.2.2.2.2.2.2.2.2.2.2.1.1,()),(⟨false,0,0⟩ : Ad),0,())))
 (req (decide (0 ≤ y9.1) && decide (y9.1 ≤ lenL y7.2.2.2.2.2.2.2.2.2.2.2.2.1) && room (lenL y7.2.2.2.2.2.2.2.2.2.2.2.2.1) 1) <|
 some (((insL y7.2.2.2.2.2.2.2.2.2.2.2.2.1 y9.1 y7.2.2.2.2.2.2.2.2.2.2.2.2.2.2.2.2.2.1.1,insL (padL y7.2.2.2.2.2.2.2.2.2.2.2.2.1.length y7.2.2.2.2.2.2.2.2.2.2.2.1) y9.1 ([] : List Ad)),y7.2.2.2.2.2.2.2.2.2.2.2.2.2.1,y7.2.2.2.2.2.2.2.2.2.2.2.2.2.2.1.1,()),(⟨false,0,0⟩ : Ad),0,())))
 (req (decide (0 ≤ y9.1) && decide (y9.1 ≤ lenL y7.2.2.2.2.2.2.2.2.2.2.2.2.1) && room (lenL y7.2.2.2.2.2.2.2.2.2.2.2.2.1) 1) <|
 some (((insL y7.2.2.2.2.2.2.2.2.2.2.2.2.1 y9.1 y7.2.2.2.2.2.2.2.2.2.2.2.2.2.2.2.2.2.1.1,insL (padL y7.2.2.2.2.2.2.2.2.2.2.2.2.1.length y7.2.2.2.2.2.2.2.2.2.2.2.1) y9.1 ([] : List Ad)),y7.2.2.2.2.2.2.2.2.2.2.2.2.2.1,y7.2.2.2.2.2.2.2.2.2.2.2.2.2.2.1.1,()),(⟨false,0,0⟩ : Ad),0,())))))
 (br (decide (a3.kind = 2))
 ((zq1740 y2.1.1 y2.1.2.1 y2.1.2.2.1 a3.ad).bind fun y3 =>
 br (decide (y3.1 < 0))
 (some (((([] : List Pf),([] : List (List Ad))),([] : List Ls),0,()),(⟨false,0,0⟩ : Ad),5,()))
 (req (zq751 y3.1 (lenL y2.1.1.1)) <|
 req (zq751 y3.1 (lenL y2.1.1.1)) <|
 req (zq751 y3.1 (lenL y2.1.1.1)) <|
 (geti y2.1.1.1 y3.1).bind fun p4 =>
 ((loopN zq1683 FUEL (((y3.1,()),(()),(()),(lenL (getL y2.1.1.2 y3.1),()),(0,()),(lenL (getL y2.1.1.2 y3.1),()),()),(a0.2,a0.1,a1,(a2,()),(a3,()),(0,()),([] : List (List Ad)),([] : List Pf),([] : List Ls),((⟨false,0,0⟩ : Ad),()),y2.1.1.2,y2.1.1.1,y2.1.2.1,(y2.1.2.2.1,()),(a3,()),((⟨false,0,0⟩ : Ad),()),(a3.ad,()),(a3.ad,()),()))).bind fun y5 =>
 br (decide (y5.1.2.2.2.2.1.1 < y5.1.2.2.2.1.1))
 (req (zq751 y5.1.2.2.2.2.1.1 (lenL (getL y5.2.2.2.2.2.2.2.2.2.2.2.1 y5.1.1.1))) <|
 (geti (getL y5.2.2.2.2.2.2.2.2.2.2.2.1 y5.1.1.1) y5.1.2.2.2.2.1.1).bind fun p6 =>
 (zq262 p6 y5.2.2.2.2.2.2.2.2.2.2.2.2.2.2.2.2.2.2.1.1).bind fun y7 =>
 some (y5.1.2.2.2.2.1.1,decide (y7.1 = 0),()))
 (some (y5.1.2.2.2.2.1.1,false,()))).bind fun y6 =>
 br y6.2.1
 (some (((([] : List Pf),([] : List (List Ad))),([] : List Ls),0,()),(⟨false,0,0⟩ : Ad),6,()))
 (req (zq751 y3.1 (lenL y2.1.1.1)) <|
 req (zq751 y3.1 (lenL y2.1.1.1)) <|
 (geti y2.1.1.1 y3.1).bind fun p7 =>
 br (decide (lenL (getL y2.1.1.2 y3.1) = 6))
 (some (((([] : List Pf),([] : List (List Ad))),([] : List Ls),0,()),(⟨false,0,0⟩ : Ad),2,()))
 (req (zq751 y3.1 (lenL y2.1.1.1)) <|
 req (zq751 y3.1 (lenL y2.1.1.1)) <|
 (geti y2.1.1.1 y3.1).bind fun p8 =>
 req (decide (0 ≤ y3.1)) <|
 req (decide (0 ≤ y6.1) && decide (y6.1 ≤ lenL (getL y2.1.1.2 y3.1)) && room (lenL (getL y2.1.1.2 y3.1)) 1) <|
 req (zq751 y3.1 (lenL y2.1.1.1)) <|
 req (zq751 y3.1 (lenL y2.1.1.1)) <|
 req (decide (y3.1 = y3.1)) <|
 (geti y2.1.1.1 y3.1).bind fun p9 =>
 some (((seti y2.1.1.1 y3.1 p9,seti (padL y2.1.1.1.length (outL y2.1.1.2 y3.1)) y3.1 (insL (getL y2.1.1.2 y3.1) y6.1 a3.ad)),y2.1.2.1,y2.1.2.2.1,()),(⟨false,0,0⟩ : Ad),0,())))))
 (br (decide (a3.kind = 3))
 (br (decide (a3.of_ ≥ lenL y2.1.1.1))
 (some (((([] : List Pf),([] : List (List Ad))),([] : List Ls),0,()),(⟨false,0,0⟩ : Ad),5,()))
 (req (zq751 a3.of_ (lenL y2.1.1.1)) <|
 (geti y2.1.1.1 a3.of_).bind fun p3 =>
 (zq209 y2.1.1 y2.1.2.1 y2.1.2.2.1 a3.who).bind fun y4 =>
 (br (decide (y4.1 ≥ 0))
 (req (zq751 y4.1 (lenL y2.1.2.1)) <|
 req (zq751 y4.1 (lenL y2.1.2.1)) <|
 (geti y2.1.2.1 y4.1).bind fun p5 =>
 (zq1326 p3 p5.ad).bind fun y6 =>
 some (!y6.1))
 (some false)).bind fun c5 =>
 br c5
 (some (((([] : List Pf),([] : List (List Ad))),([] : List Ls),0,()),(⟨false,0,0⟩ : Ad),6,()))
 ((loopN zq1674 FUEL (((()),(a3.who,()),(a3.n,()),(()),(()),(()),(()),(()),(lenL y2.1.2.1,()),(0,()),()),(a0.2,a0.1,a1,(a2,()),(a3,()),(0,()),([] : List (List Ad)),([] : List Pf),([] : List Ls),((⟨false,0,0⟩ : Ad),()),y2.1.1.2,y2.1.1.1,y2.1.2.1,(y2.1.2.2.1,()),(a3,()),((⟨false,0,0⟩ : Ad),()),((⟨false,0,0⟩ : Ad),()),(p3.ad.v6,p3.ad.hi,p3.ad.lo,p3.bits,a3.of_,()),([] : List Ls),([] : List Ls),()))).bind fun y6 =>
 dup 1 <|
 (zq973 (⟨(⟨y6.2.2.2.2.2.2.2.2.2.2.2.2.2.2.2.2.2.2.1.1,y6.2.2.2.2.2.2.2.2.2.2.2.2.2.2.2.2.2.2.1.2.1,y6.2.2.2.2.2.2.2.2.2.2.2.2.2.2.2.2.2.2.1.2.2.1⟩ : Ad),y6.2.2.2.2.2.2.2.2.2.2.2.2.2.2.2.2.2.2.1.2.2.2.1⟩ : Pf) (getL y6.2.2.2.2.2.2.2.2.2.2.2.1 y6.2.2.2.2.2.2.2.2.2.2.2.2.2.2.2.2.2.2.1.2.2.2.2.1) y6.2.2.2.2.2.2.2.2.2.2.2.2.2.2.2.2.2.2.2.1 y6.1.2.1.1 y6.2.2.2.2.2.2.2.2.2.2.2.2.2.2.1.1 y6.1.2.2.1.1).bind fun y7 =>
 br (!y7.2.2.1)
 (some (((([] : List Pf),([] : List (List Ad))),([] : List Ls),0,()),(⟨false,0,0⟩ : Ad),8,()))
 (req (i64ok ((lenL y7.1) + (lenL y6.2.2.2.2.2.2.2.2.2.2.2.2.2.2.2.2.2.2.2.2.1))) <|
 br (decide ((lenL y7.1) + (lenL y6.2.2.2.2.2.2.2.2.2.2.2.2.2.2.2.2.2.2.2.2.1) > 20))
 (some (((([] : List Pf),([] : List (List Ad))),([] : List Ls),0,()),(⟨false,0,0⟩ : Ad),2,()))
 (req (room (lenL y7.1) (lenL y6.2.2.2.2.2.2.2.2.2.2.2.2.2.2.2.2.2.2.2.2.1)) <|
 req (zq1634 (y7.1 ++ y6.2.2.2.2.2.2.2.2.2.2.2.2.2.2.2.2.2.2.2.2.1)) <|
 some (((y6.2.2.2.2.2.2.2.2.2.2.2.2.1,y6.2.2.2.2.2.2.2.2.2.2.2.1),sortL (y7.1 ++ y6.2.2.2.2.2.2.2.2.2.2.2.2.2.2.2.2.2.2.2.2.1),y6.2.2.2.2.2.2.2.2.2.2.2.2.2.2.1.1,()),y7.2.1,0,()))))))
 (br (decide (a3.kind = 4))
 ((zq209 y2.1.1 y2.1.2.1 y2.1.2.2.1 a3.who).bind fun y3 =>
 br (decide (y3.1 < 0))
 (some (((([] : List Pf),([] : List (List Ad))),([] : List Ls),0,()),(⟨false,0,0⟩ : Ad),5,()))
 (req (zq751 y3.1 (lenL y2.1.2.1)) <|
 req (zq751 y3.1 (lenL y2.1.2.1)) <|
 (geti y2.1.2.1 y3.1).bind fun p4 =>
 req (i64ok (y3.1 + 1)) <|
 req (decide (0 ≤ y3.1) && decide (y3.1 ≤ y3.1 + 1) && decide (y3.1 + 1 ≤ lenL y2.1.2.1)) <|
 some ((y2.1.1,delL y2.1.2.1 y3.1 (y3.1 + 1),y2.1.2.2.1,()),p4.ad,0,())))
 (br (decide (a3.n < y2.1.2.2.1))
 (some (((([] : List Pf),([] : List (List Ad))),([] : List Ls),0,()),(⟨false,0,0⟩ : Ad),4,()))
 ((zq938 y2.1.2.1 a3.n).bind fun y3 =>
 some ((y2.1.1,y3.1,a3.n,()),(⟨false,0,0⟩ : Ad),0,())))))))
abbrev log_All_L3_A := ((Unit × Unit × Unit × (Int × Unit) × (Int × Unit) × Unit) × (List En × (Int × Unit) × (Int × Unit) × List Pf × List Ls × List Pf × List Ls × List Ad × List (List Ad) × List (List Ad) × Unit))
abbrev log_All_L3_B := Option ((Unit × Unit × Unit) × (List En × (Int × Unit) × (Int × Unit) × List Pf × List Ls × List Pf × List Ls × List Ad × List (List Ad) × List (List Ad) × Unit))
def zq1016 (rec : log_All_L3_A → log_All_L3_B) (x : log_All_L3_A) : log_All_L3_B :=
 let v0 := x.1.2.2.2.1.1
 let v1 := x.1.2.2.2.2.1.1
 let v2 := x.2.1
 let v3 := x.2.2.1.1
 let v4 := x.2.2.2.1.1
 let v5 := x.2.2.2.2.1
 let zz := x.2.2.2.2.2
 let v6 := zz.1
 let v7 := zz.2.1
 let v8 := zz.2.2.1
 let v9 := zz.2.2.2.1
 let v10 := zz.2.2.2.2.1
 let v11 := zz.2.2.2.2.2.1
 br (decide (v1 < v0))
 (req (zq751 v1 (lenL v2)) <|
 (geti v2 v1).bind fun p1 =>
 both
 ((zq1716 (v7,v11) v8 v4 p1.op).bind fun y2 =>
 dup 1 <|
 br (decide (y2.2.2.1 = 0))
 (req (room (lenL v9) (lenL ([y2.2.1] : List Ad))) <|
 req (i64ok (v1 + 1)) <|
 rec (((),(),(),(v0,()),(v1 + 1,()),()),(v2,(v3,()),(y2.1.2.2.1,()),v5,v6,y2.1.1.1,y2.1.2.1,v9 ++ ([y2.2.1] : List Ad),v10,y2.1.1.2,())))
 (req (room (lenL v9) (lenL ([y2.2.1] : List Ad))) <|
 req (i64ok (v1 + 1)) <|
 rec (((),(),(),(v0,()),(v1 + 1,()),()),(v2,(v3,()),(v4,()),v5,v6,v7,v8,v9 ++ ([y2.2.1] : List Ad),v10,v11,()))))
 (both
 (dup 1 <|
 (zq1716 (v7,v11) v8 v4 p1.op).bind fun y2 =>
 br (decide (y2.2.2.1 = 0))
 (req (room (lenL v9) (lenL ([y2.2.1] : List Ad))) <|
 req (i64ok (v1 + 1)) <|
 rec (((),(),(),(v0,()),(v1 + 1,()),()),(v2,(v3,()),(y2.1.2.2.1,()),v5,v6,y2.1.1.1,y2.1.2.1,v9 ++ ([y2.2.1] : List Ad),v10,y2.1.1.2,())))
 (req (room (lenL v9) (lenL ([y2.2.1] : List Ad))) <|
 req (i64ok (v1 + 1)) <|
 rec (((),(),(),(v0,()),(v1 + 1,()),()),(v2,(v3,()),(v4,()),v5,v6,v7,v8,v9 ++ ([y2.2.1] : List Ad),v10,v11,()))))
 (dup 1 <|
 (zq1716 (v7,v11) v8 v4 p1.op).bind fun y2 =>
 br (decide (y2.2.2.1 = 0))
 (req (room (lenL v9) (lenL ([y2.2.1] : List Ad))) <|
 req (i64ok (v1 + 1)) <|
 rec (((),(),(),(v0,()),(v1 + 1,()),()),(v2,(v3,()),(y2.1.2.2.1,()),v5,v6,y2.1.1.1,y2.1.2.1,v9 ++ ([y2.2.1] : List Ad),v10,y2.1.1.2,())))
 (req (room (lenL v9) (lenL ([y2.2.1] : List Ad))) <|
 req (i64ok (v1 + 1)) <|
 rec (((),(),(),(v0,()),(v1 + 1,()),()),(v2,(v3,()),(v4,()),v5,v6,v7,v8,v9 ++ ([y2.2.1] : List Ad),v10,v11,()))))))
 (some (((),(),()),(v2,(v3,()),(v4,()),v5,v6,v7,v8,v9,v10,v11,())))
def zq1027 (a0 : List En) : Option (((List Pf × List (List Ad)) × (List Ls) × Int × Unit) × (List Ad) × Unit) :=
 (loopN zq1016 FUEL (((()),(()),(()),(lenL a0,()),(0,()),()),(a0,(0,()),(0,()),([] : List Pf),([] : List Ls),([] : List Pf),([] : List Ls),([] : List Ad),([] : List (List Ad)),([] : List (List Ad)),()))).bind fun y1 =>
 some (((y1.2.2.2.2.2.2.1,y1.2.2.2.2.2.2.2.2.2.2.1),y1.2.2.2.2.2.2.2.1,y1.2.2.2.1.1,()),y1.2.2.2.2.2.2.2.2.1,())
def zq471 (a0 : Int) (a1 : Int) (a2 : Int) (a3 : Int) (a4 : List En) (a5 : List Int × List (List En)) (a6 : Int) : Option (((List Pf × List (List Ad)) × (List Ls) × Int × Unit) × Int × Unit) :=
 (zq432 a0 a1 a2 a3 a4 a5).bind fun y1 =>
 (br (decide (y1.1 = 0))
 ((zq489 a6 1 2).bind fun y2 =>
 some (!y2.1))
 (some false)).bind fun c2 =>
 br c2
 (some (((([] : List Pf),([] : List (List Ad))),([] : List Ls),0,()),3,()))
 (br (!decide (y1.1 = 0))
 (some (((([] : List Pf),([] : List (List Ad))),([] : List Ls),0,()),y1.1,()))
 (req (i64ok (a6 - 1)) <|
 req (zq751 (a6 - 1) (lenL a5.1)) <|
 req (zq751 (a6 - 1) (lenL a5.1)) <|
 (geti a5.1 (a6 - 1)).bind fun p3 =>
 (zq1027 (getL a5.2 (a6 - 1))).bind fun y4 =>
 some ((y4.1.1,y4.1.2.1,y4.1.2.2.1,()),0,())))
def zq857 : Option (Bool × Unit) :=
 zq872.bind fun y1 =>
 (zq465 y1.1).bind fun y2 =>
 (zq471 y2.1.1 y2.1.2.1 y2.1.2.2.1 y2.1.2.2.2.1 y2.1.2.2.2.2.1 y2.1.2.2.2.2.2.1 2).bind fun y3 =>
 (br (!decide (y2.2.2.1 = 0))
 (some true)
 (some (!decide (y3.2.1 = 0)))).bind fun c4 =>
 (br c4
 (some true)
 (some (!decide (lenL y2.2.1 = 7)))).bind fun c5 =>
 br c5
 (some (false,()))
 (zq456.bind fun y6 =>
 (zq432 y6.1.1 y6.1.2.1 y6.1.2.2.1 y6.1.2.2.2.1 y6.1.2.2.2.2.1 y6.1.2.2.2.2.2.1).bind fun y7 =>
 br (!decide (y7.1 = 0))
 (some (false,()))
 ((zq432 y2.1.1 y2.1.2.1 y2.1.2.2.1 y2.1.2.2.2.1 y2.1.2.2.2.2.1 y2.1.2.2.2.2.2.1).bind fun y8 =>
 br (!decide (y8.1 = 0))
 (some (false,()))
 (req (zq751 3 (lenL y2.2.1)) <|
 (geti y2.2.1 3).bind fun p9 =>
 (br p9
 (req (zq751 4 (lenL y2.2.1)) <|
 (geti y2.2.1 4).bind fun p10 =>
 some (!p10))
 (some false)).bind fun c10 =>
 (br c10
 (req (zq751 6 (lenL y2.2.1)) <|
 (geti y2.2.1 6).bind fun p11 =>
 some p11)
 (some false)).bind fun c11 =>
 (br c11
 (some (decide (lenL y2.1.2.2.2.2.1 = 2)))
 (some false)).bind fun c12 =>
 (br c12
 (some (decide (y2.1.2.1 = 2)))
 (some false)).bind fun c13 =>
 (br c13
 (some (decide (lenL y3.1.1.1 = 1)))
 (some false)).bind fun c14 =>
 some (c14,()))))
def zq1569 (a0 : List En) (a1 : List En) : Option ((List En) × Int × Unit) :=
 (zq1045 a0).bind fun y1 =>
 br (!decide (y1.1 = 0))
 (some (([] : List En),y1.1,()))
 (req (i64ok (0 + (lenL a0))) <|
 br (decide (0 + (lenL a0) < 0))
 (none)
 (req (i64ok ((0 + (lenL a0)) + (lenL a1))) <|
 br (decide ((0 + (lenL a0)) + (lenL a1) < 0))
 (none)
 (req ((decide (0 ≤ (0 + (lenL a0)) + (lenL a1))) && (Nat.ble ((0 + (lenL a0)) + (lenL a1)).toNat 1099511627776)) <|
 req (room (lenL ([] : List En)) (lenL a0)) <|
 req (room (lenL (([] : List En) ++ a0)) (lenL a1)) <|
 (zq1045 ((([] : List En) ++ a0) ++ a1)).bind fun y2 =>
 br (!decide (y2.1 = 0))
 (some (([] : List En),y2.1,()))
 (some ((([] : List En) ++ a0) ++ a1,0,())))))
def zq892 : Option (Bool × Unit) :=
 zq867.bind fun y1 =>
 both
 (req (true && (decide (1 ≤ lenL y1.1))) <|
 zq867.bind fun y2 =>
 (zq1554 (subL y1.1 0 1) y2.1 1).bind fun y3 =>
 zq867.bind fun y4 =>
 req (true && (decide (1 ≤ lenL y4.1))) <|
 (zq1569 (subL y4.1 0 1) y3.1).bind fun y5 =>
 (zq1569 y5.1 y3.1).bind fun y6 =>
 (br (decide (y3.2.1 = 0))
 (some (decide (y5.2.1 = 0)))
 (some false)).bind fun c7 =>
 (br c7
 (some (decide (y6.2.1 = 4)))
 (some false)).bind fun c8 =>
 (br c8
 (some (decide (lenL y3.1 = 1)))
 (some false)).bind fun c9 =>
 br c9
 (zq867.bind fun y10 =>
 req (true && (decide (2 ≤ lenL y10.1))) <|
 (zq147 y5.1 (subL y10.1 0 2)).bind fun y11 =>
 some (y11.1,()))
 (some (false,())))
 (zq867.bind fun y2 =>
 req (true && (decide (1 ≤ lenL y1.1))) <|
 (zq1554 (subL y1.1 0 1) y2.1 1).bind fun y3 =>
 zq867.bind fun y4 =>
 req (true && (decide (1 ≤ lenL y4.1))) <|
 (zq1569 (subL y4.1 0 1) y3.1).bind fun y5 =>
 (zq1569 y5.1 y3.1).bind fun y6 =>
 (br (decide (y3.2.1 = 0))
 (some (decide (y5.2.1 = 0)))
 (some false)).bind fun c7 =>
 (br c7
 (some (decide (y6.2.1 = 4)))
 (some false)).bind fun c8 =>
 (br c8
 (some (decide (lenL y3.1 = 1)))
 (some false)).bind fun c9 =>
 br c9
 (zq867.bind fun y10 =>
 req (true && (decide (2 ≤ lenL y10.1))) <|
 (zq147 y5.1 (subL y10.1 0 2)).bind fun y11 =>
 some (y11.1,()))
 (some (false,())))
def zq1074 (a0 : List En) : Option (((List Pf × List (List Ad)) × (List Ls) × Int × Unit) × (List Ad) × Int × Unit) :=
 (zq1045 a0).bind fun y1 =>
 br (!decide (y1.1 = 0))
 (some (((([] : List Pf),([] : List (List Ad))),([] : List Ls),0,()),([] : List Ad),y1.1,()))
 ((zq1027 a0).bind fun y2 =>
 some ((y2.1.1,y2.1.2.1,y2.1.2.2.1,()),y2.2.1,0,()))
def zq882 : Option (Bool × Unit) :=
 zq867.bind fun y1 =>
 zq897.bind fun y2 =>
 req (zq751 2 (lenL y2.1)) <|
 (geti y2.1 2).bind fun p3 =>
 (zq1015 y1.1 4 p3).bind fun y4 =>
 (zq1074 y4.1).bind fun y5 =>
 zq867.bind fun y6 =>
 (zq1036 y6.1 y4.1).bind fun y7 =>
 zq867.bind fun y8 =>
 zq897.bind fun y9 =>
 req (zq751 2 (lenL y9.1)) <|
 (geti y9.1 2).bind fun p10 =>
 (zq1015 y8.1 3 p10).bind fun y11 =>
 zq867.bind fun y12 =>
 (zq1045 y12.1).bind fun y13 =>
 br (decide (y13.1 = 0))
 (br (decide (y4.2.1 = 0))
 (br (decide (y5.2.2.1 = 0))
 (br (decide (y7.2.1 = 0))
 (br (decide (y11.2.1 = 4))
 (br y7.1
 (br (decide (lenL y4.1 = 4))
 (br (decide (lenL y5.1.2.1 = 1))
 (br (decide (lenL y5.2.1 = 4))
 (req (zq751 3 (lenL y5.2.1)) <|
 (geti y5.2.1 3).bind fun p14 =>
 (zq909 9).bind fun y15 =>
 some (eqAd p14 y15.1,()))
 (both
 (dup 1 <|
 some (false,()))
 (some (false,()))))
 (both
 (dup 1 <|
 some (false,()))
 (some (false,()))))
 (both
 (dup 1 <|
 some (false,()))
 (some (false,()))))
 (both
 (dup 1 <|
 some (false,()))
 (some (false,()))))
 (both
 (dup 1 <|
 some (false,()))
 (some (false,()))))
 (both
 (dup 1 <|
 some (false,()))
 (some (false,()))))
 (both
 (dup 1 <|
 some (false,()))
 (some (false,()))))
 (both
 (dup 1 <|
 some (false,()))
 (some (false,()))))
 (both
 (dup 1 <|
 some (false,()))
 (some (false,())))
abbrev law_RestClusters_L6_A := ((Unit × Unit × Unit × (Int × Unit) × Unit) × (List En × List (List En) × List Int × (Int × Int × Int × Int × Unit) × (Ev × Unit) × (Int × Int × Int × Int × Unit) × List En × List Int × List (List En) × Unit))
abbrev law_RestClusters_L6_B := Option ((Unit × Unit × Unit × Unit) × (List En × List (List En) × List Int × (Int × Int × Int × Int × Unit) × (Ev × Unit) × (Int × Int × Int × Int × Unit) × List En × List Int × List (List En) × Unit))
def zq826 (rec : law_RestClusters_L6_A → law_RestClusters_L6_B) (x : law_RestClusters_L6_A) : law_RestClusters_L6_B :=
 let v0 := x.1.2.2.2.1.1
 let v1 := x.2.1
 let v2 := x.2.2.1
 let v3 := x.2.2.2.1
 let zz := x.2.2.2.2
 let v4 := zz.1.1
 let v5 := zz.1.2.1
 let v6 := zz.1.2.2.1
 let v7 := zz.1.2.2.2.1
 let v8 := zz.2.1.1
 let v9 := zz.2.2.1.1
 let v10 := zz.2.2.1.2.1
 let v11 := zz.2.2.1.2.2.1
 let v12 := zz.2.2.1.2.2.2.1
 let v13 := zz.2.2.2.1
 let v14 := zz.2.2.2.2.1
 let v15 := zz.2.2.2.2.2.1
 br (decide (v0 < lenL v3))
 ((req (zq751 v0 (lenL v3)) <|
 req (zq751 v0 (lenL v3)) <|
 (geti v3 v0).bind fun p1 =>
 req (zq751 v0 (lenL v3)) <|
 req (zq751 v0 (lenL v3)) <|
 (geti v3 v0).bind fun p2 =>
 both
 (both
 (req (room (lenL ([] : List En)) (lenL (getL v2 v0))) <|
 req (room (lenL v14) (lenL ([p1] : List Int))) <|
 some (((),(),(),(v0,()),()),(v1,v2,v3,(v4,v5,v6,v7,()),(v8,()),(v9,v10,v11,v12,()),v13,v14 ++ ([p1] : List Int),padL v14.length v15 ++ ([([] : List En) ++ (getL v2 v0)] : List (List En)),())))
 (both
 (req (room (lenL ([] : List En)) (lenL (getL v2 v0))) <|
 req (room (lenL v14) (lenL ([p1] : List Int))) <|
 some (((),(),(),(v0,()),()),(v1,v2,v3,(v4,v5,v6,v7,()),(v8,()),(v9,v10,v11,v12,()),v13,v14 ++ ([p1] : List Int),padL v14.length v15 ++ ([([] : List En) ++ (getL v2 v0)] : List (List En)),())))
 (req (room (lenL ([] : List En)) (lenL (getL v2 v0))) <|
 dup 1 <|
 req (room (lenL v14) (lenL ([p1] : List Int))) <|
 some (((),(),(),(v0,()),()),(v1,v2,v3,(v4,v5,v6,v7,()),(v8,()),(v9,v10,v11,v12,()),v13,v14 ++ ([p1] : List Int),padL v14.length v15 ++ ([([] : List En) ++ (getL v2 v0)] : List (List En)),())))))
 (both
 (both
 (req (room (lenL ([] : List En)) (lenL (getL v2 v0))) <|
 req (room (lenL v14) (lenL ([p1] : List Int))) <|
 some (((),(),(),(v0,()),()),(v1,v2,v3,(v4,v5,v6,v7,()),(v8,()),(v9,v10,v11,v12,()),v13,v14 ++ ([p1] : List Int),padL v14.length v15 ++ ([([] : List En) ++ (getL v2 v0)] : List (List En)),())))
 (req (room (lenL ([] : List En)) (lenL (getL v2 v0))) <|
 dup 1 <|
 req (room (lenL v14) (lenL ([p1] : List Int))) <|
 some (((),(),(),(v0,()),()),(v1,v2,v3,(v4,v5,v6,v7,()),(v8,()),(v9,v10,v11,v12,()),v13,v14 ++ ([p1] : List Int),padL v14.length v15 ++ ([([] : List En) ++ (getL v2 v0)] : List (List En)),()))))
 (req (room (lenL ([] : List En)) (lenL (getL v2 v0))) <|
 both
 (dup 1 <|
 req (room (lenL v14) (lenL ([p1] : List Int))) <|
 some (((),(),(),(v0,()),()),(v1,v2,v3,(v4,v5,v6,v7,()),(v8,()),(v9,v10,v11,v12,()),v13,v14 ++ ([p1] : List Int),padL v14.length v15 ++ ([([] : List En) ++ (getL v2 v0)] : List (List En)),())))
 (req (room (lenL v14) (lenL ([p1] : List Int))) <|
 some (((),(),(),(v0,()),()),(v1,v2,v3,(v4,v5,v6,v7,()),(v8,()),(v9,v10,v11,v12,()),v13,v14 ++ ([p1] : List Int),padL v14.length v15 ++ ([([] : List En) ++ (getL v2 v0)] : List (List En)),())))))).bind fun y3 =>
 req (i64ok (y3.1.2.2.2.1.1 + 1)) <|
 rec (((),(),(),(y3.1.2.2.2.1.1 + 1,()),()),(y3.2.1,y3.2.2.1,y3.2.2.2.1,(y3.2.2.2.2.1.1,y3.2.2.2.2.1.2.1,y3.2.2.2.2.1.2.2.1,y3.2.2.2.2.1.2.2.2.1,()),(y3.2.2.2.2.2.1.1,()),(y3.2.2.2.2.2.2.1.1,y3.2.2.2.2.2.2.1.2.1,y3.2.2.2.2.2.2.1.2.2.1,y3.2.2.2.2.2.2.1.2.2.2.1,()),y3.2.2.2.2.2.2.2.1,y3.2.2.2.2.2.2.2.2.1,y3.2.2.2.2.2.2.2.2.2.1,())))
 (some (((),(),(),()),(v1,v2,v3,(v4,v5,v6,v7,()),(v8,()),(v9,v10,v11,v12,()),v13,v14,v15,())))
abbrev law_RestClusters_law_spoilLog_L1_A := (((Int × Unit) × (Int × Unit) × Unit) × (List En × List (List En) × List Int × (Int × Int × Int × Int × Unit) × (Ev × Unit) × (Int × Int × Int × Int × Unit) × (Int × Int × Int × Int × Unit) × (Int × Int × Int × Int × Unit) × (Int × Int × Int × Unit) × (Int × Int × Int × Unit) × List En × (Int × Unit) × List En × List En × (Int × Int × Int × Int × Unit) × List Bool × List En × List Int × List En × List Int × List En × List Int × List En × List En × List Pf × List Ls × List En × List Int × List (List En) × List (List En) × List (List En) × List (List Ad) × List (List En) × Unit))
abbrev law_RestClusters_law_spoilLog_L1_B := Option (Unit × (List En × List (List En) × List Int × (Int × Int × Int × Int × Unit) × (Ev × Unit) × (Int × Int × Int × Int × Unit) × (Int × Int × Int × Int × Unit) × (Int × Int × Int × Int × Unit) × (Int × Int × Int × Unit) × (Int × Int × Int × Unit) × List En × (Int × Unit) × List En × List En × (Int × Int × Int × Int × Unit) × List Bool × List En × List Int × List En × List Int × List En × List Int × List En × List En × List Pf × List Ls × List En × List Int × List (List En) × List (List En) × List (List En) × List (List Ad) × List (List En) × Unit))
def zq832 (rec : law_RestClusters_law_spoilLog_L1_A → law_RestClusters_law_spoilLog_L1_B) (x : law_RestClusters_law_spoilLog_L1_A) : law_RestClusters_law_spoilLog_L1_B :=
 let v0 := x.1.1.1
 let v1 := x.1.2.1.1
 let v2 := x.2.1
 let v3 := x.2.2.1
 let v4 := x.2.2.2.1
 let v5 := x.2.2.2.2.1.1
 let v6 := x.2.2.2.2.1.2.1
 let v7 := x.2.2.2.2.1.2.2.1
 let v8 := x.2.2.2.2.1.2.2.2.1
 let v9 := x.2.2.2.2.2.1.1
 let v10 := x.2.2.2.2.2.2.1.1
 let v11 := x.2.2.2.2.2.2.1.2.1
 let v12 := x.2.2.2.2.2.2.1.2.2.1
 let v13 := x.2.2.2.2.2.2.1.2.2.2.1
 let v14 := x.2.2.2.2.2.2.2.1.1
 let v15 := x.2.2.2.2.2.2.2.1.2.1
 let v16 := x.2.2.2.2.2.2.2.1.2.2.1
 let v17 := x.2.2.2.2.2.2.2.1.2.2.2.1
 let v18 := x.2.2.2.2.2.2.2.2.1.1
 let v19 := x.2.2.2.2.2.2.2.2.1.2.1
 let v20 := x.2.2.2.2.2.2.2.2.1.2.2.1
 let v21 := x.2.2.2.2.2.2.2.2.1.2.2.2.1
 let v22 := x.2.2.2.2.2.2.2.2.2.1.1
 let v23 := x.2.2.2.2.2.2.2.2.2.1.2.1
 let v24 := x.2.2.2.2.2.2.2.2.2.1.2.2.1
 let v25 := x.2.2.2.2.2.2.2.2.2.2.1.1
 let v26 := x.2.2.2.2.2.2.2.2.2.2.1.2.1
 let v27 := x.2.2.2.2.2.2.2.2.2.2.1.2.2.1
 let v28 := x.2.2.2.2.2.2.2.2.2.2.2.1
 let v29 := x.2.2.2.2.2.2.2.2.2.2.2.2.1.1
 let zz := x.2.2.2.2.2.2.2.2.2.2.2.2.2
 let v30 := zz.1
 let v31 := zz.2.1
 let v32 := zz.2.2.1.1
 let v33 := zz.2.2.1.2.1
 let v34 := zz.2.2.1.2.2.1
 let v35 := zz.2.2.1.2.2.2.1
 let v36 := zz.2.2.2.1
 let v37 := zz.2.2.2.2.1
 let v38 := zz.2.2.2.2.2.1
 let v39 := zz.2.2.2.2.2.2.1
 let v40 := zz.2.2.2.2.2.2.2.1
 let v41 := zz.2.2.2.2.2.2.2.2.1
 let v42 := zz.2.2.2.2.2.2.2.2.2.1
 let v43 := zz.2.2.2.2.2.2.2.2.2.2.1
 let v44 := zz.2.2.2.2.2.2.2.2.2.2.2.1
 let v45 := zz.2.2.2.2.2.2.2.2.2.2.2.2.1
 let v46 := zz.2.2.2.2.2.2.2.2.2.2.2.2.2.1
 let v47 := zz.2.2.2.2.2.2.2.2.2.2.2.2.2.2.1
 let v48 := zz.2.2.2.2.2.2.2.2.2.2.2.2.2.2.2.1
 let v49 := zz.2.2.2.2.2.2.2.2.2.2.2.2.2.2.2.2.1
 let v50 := zz.2.2.2.2.2.2.2.2.2.2.2.2.2.2.2.2.2.1
 let v51 := zz.2.2.2.2.2.2.2.2.2.2.2.2.2.2.2.2.2.2.1
 let v52 := zz.2.2.2.2.2.2.2.2.2.2.2.2.2.2.2.2.2.2.2.1
 let v53 := zz.2.2.2.2.2.2.2.2.2.2.2.2.2.2.2.2.2.2.2.2.1
 br (decide (v1 < lenL (getL v51 v0)))
 (req (zq751 v1 (lenL (getL v51 v0))) <|
 req (zq751 v1 (lenL (getL v51 v0))) <|
 (geti (getL v51 v0) v1).bind fun p1 =>
 req (i64ok (v1 + 1)) <|
 rec (((v0,()),(v1 + 1,()),()),(v2,v3,v4,(v5,v6,v7,v8,()),(v9,()),(v10,v11,v12,v13,()),(v14,v15,v16,v17,()),(v18,v19,v20,v21,()),(v22,v23,v24,()),(v25,v26,v27,()),v28,(v29,()),v30,v31,(v32,v33,v34,v35,()),v36,v37,v38,v39,v40,v41,v42,v43,v44,v45,v46,v47,v48,v49,v50,seti v51 v0 (seti (getL v51 v0) v1 (⟨(-7),p1.epoch,p1.op⟩ : En)),v52,v53,())))
 (some ((),(v2,v3,v4,(v5,v6,v7,v8,()),(v9,()),(v10,v11,v12,v13,()),(v14,v15,v16,v17,()),(v18,v19,v20,v21,()),(v22,v23,v24,()),(v25,v26,v27,()),v28,(v29,()),v30,v31,(v32,v33,v34,v35,()),v36,v37,v38,v39,v40,v41,v42,v43,v44,v45,v46,v47,v48,v49,v50,v51,v52,v53,())))
abbrev law_RestClusters_L32_A := ((Unit × Unit × Unit × (Int × Unit) × Unit × (Int × Unit) × Unit × Unit × Unit × Unit × Unit × Unit × Unit × Unit × Unit × (Int × Unit) × Unit) × (List En × List (List En) × List Int × (Int × Int × Int × Int × Unit) × (Ev × Unit) × (Int × Int × Int × Int × Unit) × (Int × Int × Int × Int × Unit) × (Int × Int × Int × Int × Unit) × (Int × Int × Int × Unit) × (Int × Int × Int × Unit) × List En × (Int × Unit) × List En × List En × (Int × Int × Int × Int × Unit) × List Bool × List En × List Int × List En × List Int × List En × List Int × List En × List En × List Pf × List Ls × List En × List Int × List (List En) × List (List En) × List (List En) × List (List Ad) × List (List En) × Unit))
abbrev law_RestClusters_L32_B := Option ((Unit × Unit × Unit × (Int × Unit) × Unit × (Int × Unit) × Unit × Unit × Unit × Unit × Unit × Unit × Unit × Unit × Unit) × (List En × List (List En) × List Int × (Int × Int × Int × Int × Unit) × (Ev × Unit) × (Int × Int × Int × Int × Unit) × (Int × Int × Int × Int × Unit) × (Int × Int × Int × Unit) × (Int × Int × Int × Unit) × List En × (Int × Unit) × List En × List En × (Int × Int × Int × Int × Unit) × List Bool × List En × List Int × List En × List Int × List En × List En × List Pf × List Ls × List En × List Int × List (List En) × List (List En) × List (List Ad) × List (List En) × Unit))
def zq820 (rec : law_RestClusters_L32_A → law_RestClusters_L32_B) (x : law_RestClusters_L32_A) : law_RestClusters_L32_B :=
 let v0 := x.1.2.2.2.1.1
 let v1 := x.1.2.2.2.2.2.1.1
 let v2 := x.1.2.2.2.2.2.2.2.2.2.2.2.2.2.2.2.1.1
 let v3 := x.2.1
 let v4 := x.2.2.1
 let v5 := x.2.2.2.1
 let v6 := x.2.2.2.2.1.1
 let v7 := x.2.2.2.2.1.2.1
 let v8 := x.2.2.2.2.1.2.2.1
 let v9 := x.2.2.2.2.1.2.2.2.1
 let v10 := x.2.2.2.2.2.1.1
 let v11 := x.2.2.2.2.2.2.1.1
 let v12 := x.2.2.2.2.2.2.1.2.1
 let v13 := x.2.2.2.2.2.2.1.2.2.1
 let v14 := x.2.2.2.2.2.2.1.2.2.2.1
 let v15 := x.2.2.2.2.2.2.2.1.1
 let v16 := x.2.2.2.2.2.2.2.1.2.1
 let v17 := x.2.2.2.2.2.2.2.1.2.2.1
 let v18 := x.2.2.2.2.2.2.2.1.2.2.2.1
 let v19 := x.2.2.2.2.2.2.2.2.1.1
 let v20 := x.2.2.2.2.2.2.2.2.1.2.1
 let v21 := x.2.2.2.2.2.2.2.2.1.2.2.1
 let v22 := x.2.2.2.2.2.2.2.2.1.2.2.2.1
 let v23 := x.2.2.2.2.2.2.2.2.2.1.1
 let v24 := x.2.2.2.2.2.2.2.2.2.1.2.1
 let v25 := x.2.2.2.2.2.2.2.2.2.1.2.2.1
 let v26 := x.2.2.2.2.2.2.2.2.2.2.1.1
 let v27 := x.2.2.2.2.2.2.2.2.2.2.1.2.1
 let v28 := x.2.2.2.2.2.2.2.2.2.2.1.2.2.1
 let v29 := x.2.2.2.2.2.2.2.2.2.2.2.1
 let v30 := x.2.2.2.2.2.2.2.2.2.2.2.2.1.1
 let zz := x.2.2.2.2.2.2.2.2.2.2.2.2.2
 let v31 := zz.1
 let v32 := zz.2.1
 let v33 := zz.2.2.1.1
 let v34 := zz.2.2.1.2.1
 let v35 := zz.2.2.1.2.2.1
 let v36 := zz.2.2.1.2.2.2.1
 let v37 := zz.2.2.2.1
 let v38 := zz.2.2.2.2.1
 let v39 := zz.2.2.2.2.2.1
 let v40 := zz.2.2.2.2.2.2.1
 let v41 := zz.2.2.2.2.2.2.2.1
 let v42 := zz.2.2.2.2.2.2.2.2.1
 let v43 := zz.2.2.2.2.2.2.2.2.2.1
 let v44 := zz.2.2.2.2.2.2.2.2.2.2.1
 let v45 := zz.2.2.2.2.2.2.2.2.2.2.2.1
 let v46 := zz.2.2.2.2.2.2.2.2.2.2.2.2.1
 let v47 := zz.2.2.2.2.2.2.2.2.2.2.2.2.2.1
 let v48 := zz.2.2.2.2.2.2.2.2.2.2.2.2.2.2.1
 let v49 := zz.2.2.2.2.2.2.2.2.2.2.2.2.2.2.2.1
 let v50 := zz.2.2.2.2.2.2.2.2.2.2.2.2.2.2.2.2.1
 let v51 := zz.2.2.2.2.2.2.2.2.2.2.2.2.2.2.2.2.2.1
 let v52 := zz.2.2.2.2.2.2.2.2.2.2.2.2.2.2.2.2.2.2.1
 let v53 := zz.2.2.2.2.2.2.2.2.2.2.2.2.2.2.2.2.2.2.2.1
 let v54 := zz.2.2.2.2.2.2.2.2.2.2.2.2.2.2.2.2.2.2.2.2.1
 br (decide (v2 < lenL v43))
 (req (zq751 v2 (lenL v43)) <|
 req (zq751 v2 (lenL v43)) <|
 (geti v43 v2).bind fun p1 =>
 (loopN zq832 FUEL (((v2,()),(0,()),()),(v3,v4,v5,(v6,v7,v8,v9,()),(v10,()),(v11,v12,v13,v14,()),(v15,v16,v17,v18,()),(v19,v20,v21,v22,()),(v23,v24,v25,()),(v26,v27,v28,()),v29,(v30,()),v31,v32,(v33,v34,v35,v36,()),v37,v38,v39,v40,v41,v42,v43,v44,v45,v46,v47,v48,v49,v50,v51,v52,v53,v54,()))).bind fun y2 =>
 req (i64ok (v2 + 1)) <|
 rec (((),(),(),(v0,()),(),(v1,()),(),(),(),(),(),(),(),(),(),(v2 + 1,()),()),(y2.2.1,y2.2.2.1,y2.2.2.2.1,(y2.2.2.2.2.1.1,y2.2.2.2.2.1.2.1,y2.2.2.2.2.1.2.2.1,y2.2.2.2.2.1.2.2.2.1,()),(y2.2.2.2.2.2.1.1,()),(y2.2.2.2.2.2.2.1.1,y2.2.2.2.2.2.2.1.2.1,y2.2.2.2.2.2.2.1.2.2.1,y2.2.2.2.2.2.2.1.2.2.2.1,()),(y2.2.2.2.2.2.2.2.1.1,y2.2.2.2.2.2.2.2.1.2.1,y2.2.2.2.2.2.2.2.1.2.2.1,y2.2.2.2.2.2.2.2.1.2.2.2.1,()),(y2.2.2.2.2.2.2.2.2.1.1,y2.2.2.2.2.2.2.2.2.1.2.1,y2.2.2.2.2.2.2.2.2.1.2.2.1,y2.2.2.2.2.2.2.2.2.1.2.2.2.1,()),(y2.2.2.2.2.2.2.2.2.2.1.1,y2.2.2.2.2.2.2.2.2.2.1.2.1,y2.2.2.2.2.2.2.2.2.2.1.2.2.1,()),(y2.2.2.2.2.2.2.2.2.2.2.1.1,y2.2.2.2.2.2.2.2.2.2.2.1.2.1,y2.2.2.2.2.2.2.2.2.2.2.1.2.2.1,()),y2.2.2.2.2.2.2.2.2.2.2.2.1,(y2.2.2.2.2.2.2.2.2.2.2.2.2.1.1,()),y2.2.2.2.2.2.2.2.2.2.2.2.2.2.1,y2.2.2.2.2.2.2.2.2.2.2.2.2.2.2.1,(y2.2.2.2.2.2.2.2.2.2.2.2.2.2.2.2.1.1,y2.2.2.2.2.2.2.2.2.2.2.2.2.2.2.2.1.2.1,y2.2.2.2.2.2.2.2.2.2.2.2.2.2.2.2.1.2.2.1,y2.2.2.2.2.2.2.2.2.2.2.2.2.2.2.2.1.2.2.2.1,()),y2.2.2.2.2.2.2.2.2.2.2.2.2.2.2.2.2.1,y2.2.2.2.2.2.2.2.2.2.2.2.2.2.2.2.2.2.1,y2.2.2.2.2.2.2.2.2.2.2.2.2.2.2.2.2.2.2.1,y2.2.2.2.2.2.2.2.2.2.2.2.2.2.2.2.2.2.2.2.1,y2.2.2.2.2.2.2.2.2.2.2.2.2.2.2.2.2.2.2.2.2.1,y2.2.2.2.2.2.2.2.2.2.2.2.2.2.2.2.2.2.2.2.2.2.1,y2.2.2.2.2.2.2.2.2.2.2.2.2.2.2.2.2.2.2.2.2.2.2.1,y2.2.2.2.2.2.2.2.2.2.2.2.2.2.2.2.2.2.2.2.2.2.2.2.1,y2.2.2.2.2.2.2.2.2.2.2.2.2.2.2.2.2.2.2.2.2.2.2.2.2.1,y2.2.2.2.2.2.2.2.2.2.2.2.2.2.2.2.2.2.2.2.2.2.2.2.2.2.1,y2.2.2.2.2.2.2.2.2.2.2.2.2.2.2.2.2.2.2.2.2.2.2.2.2.2.2.1,y2.2.2.2.2.2.2.2.2.2.2.2.2.2.2.2.2.2.2.2.2.2.2.2.2.2.2.2.1,y2.2.2.2.2.2.2.2.2.2.2.2.2.2.2.2.2.2.2.2.2.2.2.2.2.2.2.2.2.1,y2.2.2.2.2.2.2.2.2.2.2.2.2.2.2.2.2.2.2.2.2.2.2.2.2.2.2.2.2.2.1,y2.2.2.2.2.2.2.2.2.2.2.2.2.2.2.2.2.2.2.2.2.2.2.2.2.2.2.2.2.2.2.1,y2.2.2.2.2.2.2.2.2.2.2.2.2.2.2.2.2.2.2.2.2.2.2.2.2.2.2.2.2.2.2.2.1,y2.2.2.2.2.2.2.2.2.2.2.2.2.2.2.2.2.2.2.2.2.2.2.2.2.2.2.2.2.2.2.2.2.1,y2.2.2.2.2.2.2.2.2.2.2.2.2.2.2.2.2.2.2.2.2.2.2.2.2.2.2.2.2.2.2.2.2.2.1,())))
 (some (((),(),(),(v0,()),(),(v1,()),(),(),(),(),(),(),(),(),()),(v3,v4,v5,(v6,v7,v8,v9,()),(v10,()),(v11,v12,v13,v14,()),(v15,v16,v17,v18,()),(v23,v24,v25,()),(v26,v27,v28,()),v29,(v30,()),v31,v32,(v33,v34,v35,v36,()),v37,v38,v39,v40,v41,v44,v45,v46,v47,v48,v49,v50,v51,v53,v54,())))
abbrev law_RestClusters_law_spoilState_L5_A := ((Unit × (Int × Unit) × (Int × Unit) × Unit) × (List En × List (List En) × List Int × (Int × Int × Int × Int × Unit) × (Ev × Unit) × (Int × Int × Int × Int × Unit) × (Int × Int × Int × Int × Unit) × (Int × Int × Int × Unit) × (Int × Int × Int × Unit) × List En × (Int × Unit) × List En × List En × (Int × Int × Int × Int × Unit) × List Bool × List En × List Int × List En × List Int × List En × List En × List Pf × List Ls × List En × List Int × List (List En) × List (List En) × List (List Ad) × List (List En) × (Int × Unit) × Unit))
abbrev law_RestClusters_law_spoilState_L5_B := Option ((Unit × (Int × Unit) × Unit) × (List En × List (List En) × List Int × (Int × Int × Int × Int × Unit) × (Ev × Unit) × (Int × Int × Int × Int × Unit) × (Int × Int × Int × Int × Unit) × (Int × Int × Int × Unit) × (Int × Int × Int × Unit) × List En × (Int × Unit) × List En × List En × (Int × Int × Int × Int × Unit) × List Bool × List En × List Int × List En × List Int × List En × List En × List Pf × List Ls × List En × List Int × List (List En) × List (List En) × List (List Ad) × List (List En) × (Int × Unit) × Unit))
def zq844 (rec : law_RestClusters_law_spoilState_L5_A → law_RestClusters_law_spoilState_L5_B) (x : law_RestClusters_law_spoilState_L5_A) : law_RestClusters_law_spoilState_L5_B :=
 let v0 := x.1.2.1.1
 let v1 := x.1.2.2.1.1
 let v2 := x.2.1
 let v3 := x.2.2.1
 let v4 := x.2.2.2.1
 let v5 := x.2.2.2.2.1.1
 let v6 := x.2.2.2.2.1.2.1
 let v7 := x.2.2.2.2.1.2.2.1
 let v8 := x.2.2.2.2.1.2.2.2.1
 let v9 := x.2.2.2.2.2.1.1
 let v10 := x.2.2.2.2.2.2.1.1
 let v11 := x.2.2.2.2.2.2.1.2.1
 let v12 := x.2.2.2.2.2.2.1.2.2.1
 let v13 := x.2.2.2.2.2.2.1.2.2.2.1
 let v14 := x.2.2.2.2.2.2.2.1.1
 let v15 := x.2.2.2.2.2.2.2.1.2.1
 let v16 := x.2.2.2.2.2.2.2.1.2.2.1
 let v17 := x.2.2.2.2.2.2.2.1.2.2.2.1
 let v18 := x.2.2.2.2.2.2.2.2.1.1
 let v19 := x.2.2.2.2.2.2.2.2.1.2.1
 let v20 := x.2.2.2.2.2.2.2.2.1.2.2.1
 let v21 := x.2.2.2.2.2.2.2.2.2.1.1
 let v22 := x.2.2.2.2.2.2.2.2.2.1.2.1
 let v23 := x.2.2.2.2.2.2.2.2.2.1.2.2.1
 let v24 := x.2.2.2.2.2.2.2.2.2.2.1
 let v25 := x.2.2.2.2.2.2.2.2.2.2.2.1.1
 let v26 := x.2.2.2.2.2.2.2.2.2.2.2.2.1
 let zz := x.2.2.2.2.2.2.2.2.2.2.2.2.2
 let v27 := zz.1
 let v28 := zz.2.1.1
 let v29 := zz.2.1.2.1
 let v30 := zz.2.1.2.2.1
 let v31 := zz.2.1.2.2.2.1
 let v32 := zz.2.2.1
 let v33 := zz.2.2.2.1
 let v34 := zz.2.2.2.2.1
 let v35 := zz.2.2.2.2.2.1
 let v36 := zz.2.2.2.2.2.2.1
 let v37 := zz.2.2.2.2.2.2.2.1
 let v38 := zz.2.2.2.2.2.2.2.2.1
 let v39 := zz.2.2.2.2.2.2.2.2.2.1
 let v40 := zz.2.2.2.2.2.2.2.2.2.2.1
 let v41 := zz.2.2.2.2.2.2.2.2.2.2.2.1
 let v42 := zz.2.2.2.2.2.2.2.2.2.2.2.2.1
 let v43 := zz.2.2.2.2.2.2.2.2.2.2.2.2.2.1
 let v44 := zz.2.2.2.2.2.2.2.2.2.2.2.2.2.2.1
 let v45 := zz.2.2.2.2.2.2.2.2.2.2.2.2.2.2.2.1
 let v46 := zz.2.2.2.2.2.2.2.2.2.2.2.2.2.2.2.2.1
 let v47 := zz.2.2.2.2.2.2.2.2.2.2.2.2.2.2.2.2.2.1.1
 req (zq751 v0 (lenL v39)) <|
 req (zq751 v0 (lenL v39)) <|
 (geti v39 v0).bind fun p1 =>
 br (decide (v1 < lenL (getL v45 v0)))
 (req (zq751 v0 (lenL v39)) <|
 req (zq751 v0 (lenL v39)) <|
 (geti v39 v0).bind fun p2 =>
 req (zq751 v1 (lenL (getL v45 v0))) <|
 req (zq751 v1 (lenL (getL v45 v0))) <|
 (geti (getL v45 v0) v1).bind fun p3 =>
 req (i64ok (v1 + 1)) <|
 rec (((),(v0,()),(v1 + 1,()),()),(v2,v3,v4,(v5,v6,v7,v8,()),(v9,()),(v10,v11,v12,v13,()),(v14,v15,v16,v17,()),(v18,v19,v20,()),(v21,v22,v23,()),v24,(v25,()),v26,v27,(v28,v29,v30,v31,()),v32,v33,v34,v35,v36,v37,v38,v39,v40,v41,v42,v43,v44,seti v45 v0 (seti (getL v45 v0) v1 (⟨p3.v6,p3.hi,7⟩ : Ad)),v46,(v47,()),())))
 (some (((),(v0,()),()),(v2,v3,v4,(v5,v6,v7,v8,()),(v9,()),(v10,v11,v12,v13,()),(v14,v15,v16,v17,()),(v18,v19,v20,()),(v21,v22,v23,()),v24,(v25,()),v26,v27,(v28,v29,v30,v31,()),v32,v33,v34,v35,v36,v37,v38,v39,v40,v41,v42,v43,v44,v45,v46,(v47,()),())))
abbrev law_RestClusters_law_spoilState_L2_A := ((Unit × (Int × Unit) × Unit) × (List En × List (List En) × List Int × (Int × Int × Int × Int × Unit) × (Ev × Unit) × (Int × Int × Int × Int × Unit) × (Int × Int × Int × Int × Unit) × (Int × Int × Int × Unit) × (Int × Int × Int × Unit) × List En × (Int × Unit) × List En × List En × (Int × Int × Int × Int × Unit) × List Bool × List En × List Int × List En × List Int × List En × List En × List Pf × List Ls × List En × List Int × List (List En) × List (List En) × List (List Ad) × List (List En) × (Int × Unit) × Unit))
abbrev law_RestClusters_law_spoilState_L2_B := Option ((Unit × Unit) × (List En × List (List En) × List Int × (Int × Int × Int × Int × Unit) × (Ev × Unit) × (Int × Int × Int × Int × Unit) × (Int × Int × Int × Int × Unit) × (Int × Int × Int × Unit) × (Int × Int × Int × Unit) × List En × (Int × Unit) × List En × List En × (Int × Int × Int × Int × Unit) × List Bool × List En × List Int × List En × List Int × List En × List En × List Pf × List Ls × List En × List Int × List (List En) × List (List En) × List (List Ad) × List (List En) × (Int × Unit) × Unit))
def zq841 (rec : law_RestClusters_law_spoilState_L2_A → law_RestClusters_law_spoilState_L2_B) (x : law_RestClusters_law_spoilState_L2_A) : law_RestClusters_law_spoilState_L2_B :=
 let v0 := x.1.2.1.1
 let v1 := x.2.1
 let v2 := x.2.2.1
 let v3 := x.2.2.2.1
 let v4 := x.2.2.2.2.1.1
 let v5 := x.2.2.2.2.1.2.1
 let v6 := x.2.2.2.2.1.2.2.1
 let v7 := x.2.2.2.2.1.2.2.2.1
 let v8 := x.2.2.2.2.2.1.1
 let v9 := x.2.2.2.2.2.2.1.1
 let v10 := x.2.2.2.2.2.2.1.2.1
 let v11 := x.2.2.2.2.2.2.1.2.2.1
 let v12 := x.2.2.2.2.2.2.1.2.2.2.1
 let v13 := x.2.2.2.2.2.2.2.1.1
 let v14 := x.2.2.2.2.2.2.2.1.2.1
 let v15 := x.2.2.2.2.2.2.2.1.2.2.1
 let v16 := x.2.2.2.2.2.2.2.1.2.2.2.1
 let v17 := x.2.2.2.2.2.2.2.2.1.1
 let v18 := x.2.2.2.2.2.2.2.2.1.2.1
 let v19 := x.2.2.2.2.2.2.2.2.1.2.2.1
 let v20 := x.2.2.2.2.2.2.2.2.2.1.1
 let v21 := x.2.2.2.2.2.2.2.2.2.1.2.1
 let v22 := x.2.2.2.2.2.2.2.2.2.1.2.2.1
 let v23 := x.2.2.2.2.2.2.2.2.2.2.1
 let v24 := x.2.2.2.2.2.2.2.2.2.2.2.1.1
 let v25 := x.2.2.2.2.2.2.2.2.2.2.2.2.1
 let zz := x.2.2.2.2.2.2.2.2.2.2.2.2.2
 let v26 := zz.1
 let v27 := zz.2.1.1
 let v28 := zz.2.1.2.1
 let v29 := zz.2.1.2.2.1
 let v30 := zz.2.1.2.2.2.1
 let v31 := zz.2.2.1
 let v32 := zz.2.2.2.1
 let v33 := zz.2.2.2.2.1
 let v34 := zz.2.2.2.2.2.1
 let v35 := zz.2.2.2.2.2.2.1
 let v36 := zz.2.2.2.2.2.2.2.1
 let v37 := zz.2.2.2.2.2.2.2.2.1
 let v38 := zz.2.2.2.2.2.2.2.2.2.1
 let v39 := zz.2.2.2.2.2.2.2.2.2.2.1
 let v40 := zz.2.2.2.2.2.2.2.2.2.2.2.1
 let v41 := zz.2.2.2.2.2.2.2.2.2.2.2.2.1
 let v42 := zz.2.2.2.2.2.2.2.2.2.2.2.2.2.1
 let v43 := zz.2.2.2.2.2.2.2.2.2.2.2.2.2.2.1
 let v44 := zz.2.2.2.2.2.2.2.2.2.2.2.2.2.2.2.1
 let v45 := zz.2.2.2.2.2.2.2.2.2.2.2.2.2.2.2.2.1
 let v46 := zz.2.2.2.2.2.2.2.2.2.2.2.2.2.2.2.2.2.1.1
 br (decide (v0 < lenL v38))
 ((loopN zq844 FUEL (((),(v0,()),(0,()),()),(v1,v2,v3,(v4,v5,v6,v7,()),(v8,()),(v9,v10,v11,v12,()),(v13,v14,v15,v16,()),(v17,v18,v19,()),(v20,v21,v22,()),v23,(v24,()),v25,v26,(v27,v28,v29,v30,()),v31,v32,v33,v34,v35,v36,v37,v38,v39,v40,v41,v42,v43,v44,v45,(v46,()),()))).bind fun y1 =>
 req (zq751 y1.1.2.1.1 (lenL y1.2.2.2.2.2.2.2.2.2.2.2.2.2.2.2.2.2.2.2.2.2.2.1)) <|
 req (zq751 y1.1.2.1.1 (lenL y1.2.2.2.2.2.2.2.2.2.2.2.2.2.2.2.2.2.2.2.2.2.2.1)) <|
 req (zq751 y1.1.2.1.1 (lenL y1.2.2.2.2.2.2.2.2.2.2.2.2.2.2.2.2.2.2.2.2.2.2.1)) <|
 (geti y1.2.2.2.2.2.2.2.2.2.2.2.2.2.2.2.2.2.2.2.2.2.2.1 y1.1.2.1.1).bind fun p2 =>
 req (i64ok (y1.1.2.1.1 + 1)) <|
 rec (((),(y1.1.2.1.1 + 1,()),()),(y1.2.1,y1.2.2.1,y1.2.2.2.1,(y1.2.2.2.2.1.1,y1.2.2.2.2.1.2.1,y1.2.2.2.2.1.2.2.1,y1.2.2.2.2.1.2.2.2.1,()),(y1.2.2.2.2.2.1.1,()),(y1.2.2.2.2.2.2.1.1,y1.2.2.2.2.2.2.1.2.1,y1.2.2.2.2.2.2.1.2.2.1,y1.2.2.2.2.2.2.1.2.2.2.1,()),(y1.2.2.2.2.2.2.2.1.1,y1.2.2.2.2.2.2.2.1.2.1,y1.2.2.2.2.2.2.2.1.2.2.1,y1.2.2.2.2.2.2.2.1.2.2.2.1,()),(y1.2.2.2.2.2.2.2.2.1.1,y1.2.2.2.2.2.2.2.2.1.2.1,y1.2.2.2.2.2.2.2.2.1.2.2.1,()),(y1.2.2.2.2.2.2.2.2.2.1.1,y1.2.2.2.2.2.2.2.2.2.1.2.1,y1.2.2.2.2.2.2.2.2.2.1.2.2.1,()),y1.2.2.2.2.2.2.2.2.2.2.1,(y1.2.2.2.2.2.2.2.2.2.2.2.1.1,()),y1.2.2.2.2.2.2.2.2.2.2.2.2.1,y1.2.2.2.2.2.2.2.2.2.2.2.2.2.1,(y1.2.2.2.2.2.2.2.2.2.2.2.2.2.2.1.1,y1.2.2.2.2.2.2.2.2.2.2.2.2.2.2.1.2.1,y1.2.2.2.2.2.2.2.2.2.2.2.2.2.2.1.2.2.1,y1.2.2.2.2.2.2.2.2.2.2.2.2.2.2.1.2.2.2.1,()),y1.2.2.2.2.2.2.2.2.2.2.2.2.2.2.2.1,y1.2.2.2.2.2.2.2.2.2.2.2.2.2.2.2.2.1,y1.2.2.2.2.2.2.2.2.2.2.2.2.2.2.2.2.2.1,y1.2.2.2.2.2.2.2.2.2.2.2.2.2.2.2.2.2.2.1,y1.2.2.2.2.2.2.2.2.2.2.2.2.2.2.2.2.2.2.2.1,y1.2.2.2.2.2.2.2.2.2.2.2.2.2.2.2.2.2.2.2.2.1,y1.2.2.2.2.2.2.2.2.2.2.2.2.2.2.2.2.2.2.2.2.2.1,seti y1.2.2.2.2.2.2.2.2.2.2.2.2.2.2.2.2.2.2.2.2.2.2.1 y1.1.2.1.1 (⟨p2.ad,(-7)⟩ : Pf),y1.2.2.2.2.2.2.2.2.2.2.2.2.2.2.2.2.2.2.2.2.2.2.2.1,y1.2.2.2.2.2.2.2.2.2.2.2.2.2.2.2.2.2.2.2.2.2.2.2.2.1,y1.2.2.2.2.2.2.2.2.2.2.2.2.2.2.2.2.2.2.2.2.2.2.2.2.2.1,y1.2.2.2.2.2.2.2.2.2.2.2.2.2.2.2.2.2.2.2.2.2.2.2.2.2.2.1,y1.2.2.2.2.2.2.2.2.2.2.2.2.2.2.2.2.2.2.2.2.2.2.2.2.2.2.2.1,y1.2.2.2.2.2.2.2.2.2.2.2.2.2.2.2.2.2.2.2.2.2.2.2.2.2.2.2.2.1,y1.2.2.2.2.2.2.2.2.2.2.2.2.2.2.2.2.2.2.2.2.2.2.2.2.2.2.2.2.2.1,(y1.2.2.2.2.2.2.2.2.2.2.2.2.2.2.2.2.2.2.2.2.2.2.2.2.2.2.2.2.2.2.1.1,()),())))
 (some (((),()),(v1,v2,v3,(v4,v5,v6,v7,()),(v8,()),(v9,v10,v11,v12,()),(v13,v14,v15,v16,()),(v17,v18,v19,()),(v20,v21,v22,()),v23,(v24,()),v25,v26,(v27,v28,v29,v30,()),v31,v32,v33,v34,v35,v36,v37,v38,v39,v40,v41,v42,v43,v44,v45,(v46,()),())))
abbrev law_RestClusters_law_spoilState_L10_A := ((Unit × (Int × Unit) × Unit) × (List En × List (List En) × List Int × (Int × Int × Int × Int × Unit) × (Ev × Unit) × (Int × Int × Int × Int × Unit) × (Int × Int × Int × Int × Unit) × (Int × Int × Int × Unit) × (Int × Int × Int × Unit) × List En × (Int × Unit) × List En × List En × (Int × Int × Int × Int × Unit) × List Bool × List En × List Int × List En × List Int × List En × List En × List Pf × List Ls × List En × List Int × List (List En) × List (List En) × List (List Ad) × List (List En) × (Int × Unit) × Unit))
abbrev law_RestClusters_law_spoilState_L10_B := Option (Unit × (List En × List (List En) × List Int × (Int × Int × Int × Int × Unit) × (Ev × Unit) × (Int × Int × Int × Int × Unit) × (Int × Int × Int × Int × Unit) × (Int × Int × Int × Unit) × (Int × Int × Int × Unit) × List En × (Int × Unit) × List En × List En × (Int × Int × Int × Int × Unit) × List Bool × List En × List Int × List En × List Int × List En × List En × List Pf × List Ls × List En × List Int × List (List En) × List (List En) × List (List Ad) × List (List En) × Unit))
def zq838 (rec : law_RestClusters_law_spoilState_L10_A → law_RestClusters_law_spoilState_L10_B) (x : law_RestClusters_law_spoilState_L10_A) : law_RestClusters_law_spoilState_L10_B :=
 let v0 := x.1.2.1.1
 let v1 := x.2.1
 let v2 := x.2.2.1
 let v3 := x.2.2.2.1
 let v4 := x.2.2.2.2.1.1
 let v5 := x.2.2.2.2.1.2.1
 let v6 := x.2.2.2.2.1.2.2.1
 let v7 := x.2.2.2.2.1.2.2.2.1
 let v8 := x.2.2.2.2.2.1.1
 let v9 := x.2.2.2.2.2.2.1.1
 let v10 := x.2.2.2.2.2.2.1.2.1
 let v11 := x.2.2.2.2.2.2.1.2.2.1
 let v12 := x.2.2.2.2.2.2.1.2.2.2.1
 let v13 := x.2.2.2.2.2.2.2.1.1
 let v14 := x.2.2.2.2.2.2.2.1.2.1
 let v15 := x.2.2.2.2.2.2.2.1.2.2.1
 let v16 := x.2.2.2.2.2.2.2.1.2.2.2.1
 let v17 := x.2.2.2.2.2.2.2.2.1.1
 let v18 := x.2.2.2.2.2.2.2.2.1.2.1
 let v19 := x.2.2.2.2.2.2.2.2.1.2.2.1
 let v20 := x.2.2.2.2.2.2.2.2.2.1.1
 let v21 := x.2.2.2.2.2.2.2.2.2.1.2.1
 let v22 := x.2.2.2.2.2.2.2.2.2.1.2.2.1
 let v23 := x.2.2.2.2.2.2.2.2.2.2.1
 let v24 := x.2.2.2.2.2.2.2.2.2.2.2.1.1
 let v25 := x.2.2.2.2.2.2.2.2.2.2.2.2.1
 let zz := x.2.2.2.2.2.2.2.2.2.2.2.2.2
 let v26 := zz.1
 let v27 := zz.2.1.1
 let v28 := zz.2.1.2.1
 let v29 := zz.2.1.2.2.1
 let v30 := zz.2.1.2.2.2.1
 let v31 := zz.2.2.1
 let v32 := zz.2.2.2.1
 let v33 := zz.2.2.2.2.1
 let v34 := zz.2.2.2.2.2.1
 let v35 := zz.2.2.2.2.2.2.1
 let v36 := zz.2.2.2.2.2.2.2.1
 let v37 := zz.2.2.2.2.2.2.2.2.1
 let v38 := zz.2.2.2.2.2.2.2.2.2.1
 let v39 := zz.2.2.2.2.2.2.2.2.2.2.1
 let v40 := zz.2.2.2.2.2.2.2.2.2.2.2.1
 let v41 := zz.2.2.2.2.2.2.2.2.2.2.2.2.1
 let v42 := zz.2.2.2.2.2.2.2.2.2.2.2.2.2.1
 let v43 := zz.2.2.2.2.2.2.2.2.2.2.2.2.2.2.1
 let v44 := zz.2.2.2.2.2.2.2.2.2.2.2.2.2.2.2.1
 let v45 := zz.2.2.2.2.2.2.2.2.2.2.2.2.2.2.2.2.1
 let v46 := zz.2.2.2.2.2.2.2.2.2.2.2.2.2.2.2.2.2.1.1
 br (decide (v0 < lenL v39))
 (req (zq751 v0 (lenL v39)) <|
 req (zq751 v0 (lenL v39)) <|
 (geti v39 v0).bind fun p1 =>
 req (i64ok (v0 + 1)) <|
 rec (((),(v0 + 1,()),()),(v1,v2,v3,(v4,v5,v6,v7,()),(v8,()),(v9,v10,v11,v12,()),(v13,v14,v15,v16,()),(v17,v18,v19,()),(v20,v21,v22,()),v23,(v24,()),v25,v26,(v27,v28,v29,v30,()),v31,v32,v33,v34,v35,v36,v37,v38,seti v39 v0 (⟨p1.ad,(⟨#[63]⟩ : ByteArray),p1.upto⟩ : Ls),v40,v41,v42,v43,v44,v45,(v46,()),())))
 (some ((),(v1,v2,v3,(v4,v5,v6,v7,()),(v8,()),(v9,v10,v11,v12,()),(v13,v14,v15,v16,()),(v17,v18,v19,()),(v20,v21,v22,()),v23,(v24,()),v25,v26,(v27,v28,v29,v30,()),v31,v32,v33,v34,v35,v36,v37,v38,v39,v40,v41,v42,v43,v44,v45,())))
abbrev law_RestClusters_L43_A := ((Unit × Unit × Unit × (Int × Unit) × Unit × (Int × Unit) × Unit × (Int × Unit) × Unit) × (List En × List (List En) × List Int × (Int × Int × Int × Int × Unit) × (Ev × Unit) × (Int × Int × Int × Int × Unit) × (Int × Int × Int × Int × Unit) × List Bool × List En × List Int × List En × List Int × List (List En) × List (List En) × Unit))
abbrev law_RestClusters_L43_B := Option ((Unit × Unit × Unit × (Int × Unit) × Unit × (Int × Unit) × Unit) × (List En × List (List En) × List Int × (Int × Int × Int × Int × Unit) × (Ev × Unit) × (Int × Int × Int × Int × Unit) × (Int × Int × Int × Int × Unit) × List En × List Int × List En × List Int × List (List En) × List (List En) × Unit))
def zq823 (rec : law_RestClusters_L43_A → law_RestClusters_L43_B) (x : law_RestClusters_L43_A) : law_RestClusters_L43_B :=
 let v0 := x.1.2.2.2.1.1
 let v1 := x.1.2.2.2.2.2.1.1
 let v2 := x.1.2.2.2.2.2.2.2.1.1
 let v3 := x.2.1
 let v4 := x.2.2.1
 let v5 := x.2.2.2.1
 let v6 := x.2.2.2.2.1.1
 let v7 := x.2.2.2.2.1.2.1
 let v8 := x.2.2.2.2.1.2.2.1
 let v9 := x.2.2.2.2.1.2.2.2.1
 let v10 := x.2.2.2.2.2.1.1
 let zz := x.2.2.2.2.2.2
 let v11 := zz.1.1
 let v12 := zz.1.2.1
 let v13 := zz.1.2.2.1
 let v14 := zz.1.2.2.2.1
 let v15 := zz.2.1.1
 let v16 := zz.2.1.2.1
 let v17 := zz.2.1.2.2.1
 let v18 := zz.2.1.2.2.2.1
 let v19 := zz.2.2.1
 let v20 := zz.2.2.2.1
 let v21 := zz.2.2.2.2.1
 let v22 := zz.2.2.2.2.2.1
 let v23 := zz.2.2.2.2.2.2.1
 let v24 := zz.2.2.2.2.2.2.2.1
 let v25 := zz.2.2.2.2.2.2.2.2.1
 br (decide (v2 < lenL v19))
 (req (zq751 v2 (lenL v19)) <|
 (geti v19 v2).bind fun p1 =>
 req (zq751 v2 (lenL v19)) <|
 (geti v19 v2).bind fun p2 =>
 req (i64ok (v2 + 1)) <|
 rec (((),(),(),(v0,()),(),(v1,()),(),(v2 + 1,()),()),(v3,v4,v5,(v6,v7,v8,v9,()),(v10,()),(v11,v12,v13,v14,()),(v15,v16,v17,v18,()),seti v19 v2 (!p1),v20,v21,v22,v23,v24,v25,())))
 (some (((),(),(),(v0,()),(),(v1,()),()),(v3,v4,v5,(v6,v7,v8,v9,()),(v10,()),(v11,v12,v13,v14,()),(v15,v16,v17,v18,()),v20,v21,v22,v23,v24,v25,())))
abbrev law_RestClusters_L16_A := ((Unit × Unit × Unit × (Int × Unit) × Unit × (Int × Unit) × Unit) × (List En × List (List En) × List Int × (Int × Int × Int × Int × Unit) × (Ev × Unit) × (Int × Int × Int × Int × Unit) × (Int × Int × Int × Int × Unit) × List En × List Int × List En × List Int × List (List En) × List (List En) × Unit))
abbrev law_RestClusters_L16_B := Option ((((Bool × Unit) × Unit) × (List En × List (List En) × List Int × Unit)) ⊕ (Unit × (List En × List (List En) × List Int × Unit)))
def zq817 (rec : law_RestClusters_L16_A → law_RestClusters_L16_B) (x : law_RestClusters_L16_A) : law_RestClusters_L16_B :=
 let v0 := x.1.2.2.2.1.1
 let v1 := x.1.2.2.2.2.2.1.1
 let v2 := x.2.1
 let v3 := x.2.2.1
 let v4 := x.2.2.2.1
 let v5 := x.2.2.2.2.1.1
 let v6 := x.2.2.2.2.1.2.1
 let v7 := x.2.2.2.2.1.2.2.1
 let v8 := x.2.2.2.2.1.2.2.2.1
 let v9 := x.2.2.2.2.2.1.1
 let zz := x.2.2.2.2.2.2
 let v10 := zz.1.1
 let v11 := zz.1.2.1
 let v12 := zz.1.2.2.1
 let v13 := zz.1.2.2.2.1
 let v14 := zz.2.1.1
 let v15 := zz.2.1.2.1
 let v16 := zz.2.1.2.2.1
 let v17 := zz.2.1.2.2.2.1
 let v18 := zz.2.2.1
 let v19 := zz.2.2.2.1
 let v20 := zz.2.2.2.2.1
 let v21 := zz.2.2.2.2.2.1
 let v22 := zz.2.2.2.2.2.2.1
 let v23 := zz.2.2.2.2.2.2.2.1
 br (decide (v1 < 2))
 ((zq451 v10 v11 v12 v13 v18 (v19,v22) v9).bind fun y1 =>
 (zq862 y1.1.1 y1.1.2.1 y1.1.2.2.1 y1.1.2.2.2.1 y1.1.2.2.2.2.1 y1.1.2.2.2.2.2.1 y1.2.2.1 v0 v14 v15 v16 v17 v20 (v21,v23)).bind fun y2 =>
 br (!y2.1)
 (some (Sum.inl (((false,()),()),(v2,v3,v4,()))))
 ((zq596 v11 v12 v13 v18 1 9).bind fun y3 =>
 (both
 (zq897.bind fun y4 =>
 req (zq751 2 (lenL y4.1)) <|
 (geti y4.1 2).bind fun p5 =>
 dup 1 <|
 (zq644 v11 v12 v13 v18 v11 p5).bind fun y6 =>
 some (((),(),(),(v0,()),(),(v1,()),(),(),(),()),(v2,v3,v4,(v5,v6,v7,v8,()),(v9,()),(v10,v11,v12,v13,()),(v14,v15,v16,v17,()),(y1.1.1,y1.1.2.1,y1.1.2.2.1,y1.1.2.2.2.1,()),(y3.1.1,y3.1.2.1,y3.1.2.2.1,()),(y6.1.1,y6.1.2.1,y6.1.2.2.1,()),v18,v19,v20,v21,y1.1.2.2.2.2.1,y1.1.2.2.2.2.2.1.1,y3.1.2.2.2.1,y6.1.2.2.2.1,v22,v23,y1.1.2.2.2.2.2.1.2,())))
 (zq897.bind fun y4 =>
 req (zq751 2 (lenL y4.1)) <|
 (geti y4.1 2).bind fun p5 =>
 (zq644 v11 v12 v13 v18 v11 p5).bind fun y6 =>
 some (((),(),(),(v0,()),(),(v1,()),(),(),(),()),(v2,v3,v4,(v5,v6,v7,v8,()),(v9,()),(v10,v11,v12,v13,()),(v14,v15,v16,v17,()),(y1.1.1,y1.1.2.1,y1.1.2.2.1,y1.1.2.2.2.1,()),(y3.1.1,y3.1.2.1,y3.1.2.2.1,()),(y6.1.1,y6.1.2.1,y6.1.2.2.1,()),v18,v19,v20,v21,y1.1.2.2.2.2.1,y1.1.2.2.2.2.2.1.1,y3.1.2.2.2.1,y6.1.2.2.2.1,v22,v23,y1.1.2.2.2.2.2.1.2,())))).bind fun y7 =>
 (zq897.bind fun y8 =>
 req (zq751 2 (lenL y8.1)) <|
 (geti y8.1 2).bind fun p9 =>
 (zq1015 y7.2.2.2.2.2.2.2.2.2.2.2.1 999 p9).bind fun y10 =>
 some (((),(),(),(y7.1.2.2.2.1.1,()),(),(y7.1.2.2.2.2.2.1.1,()),(),(),(),(),()),(y7.2.1,y7.2.2.1,y7.2.2.2.1,(y7.2.2.2.2.1.1,y7.2.2.2.2.1.2.1,y7.2.2.2.2.1.2.2.1,y7.2.2.2.2.1.2.2.2.1,()),(y7.2.2.2.2.2.1.1,()),(y7.2.2.2.2.2.2.1.1,y7.2.2.2.2.2.2.1.2.1,y7.2.2.2.2.2.2.1.2.2.1,y7.2.2.2.2.2.2.1.2.2.2.1,()),(y7.2.2.2.2.2.2.2.1.1,y7.2.2.2.2.2.2.2.1.2.1,y7.2.2.2.2.2.2.2.1.2.2.1,y7.2.2.2.2.2.2.2.1.2.2.2.1,()),(y7.2.2.2.2.2.2.2.2.1.1,y7.2.2.2.2.2.2.2.2.1.2.1,y7.2.2.2.2.2.2.2.2.1.2.2.1,y7.2.2.2.2.2.2.2.2.1.2.2.2.1,()),(y7.2.2.2.2.2.2.2.2.2.1.1,y7.2.2.2.2.2.2.2.2.2.1.2.1,y7.2.2.2.2.2.2.2.2.2.1.2.2.1,()),(y7.2.2.2.2.2.2.2.2.2.2.1.1,y7.2.2.2.2.2.2.2.2.2.2.1.2.1,y7.2.2.2.2.2.2.2.2.2.2.1.2.2.1,()),y10.1,y7.2.2.2.2.2.2.2.2.2.2.2.1,y7.2.2.2.2.2.2.2.2.2.2.2.2.1,y7.2.2.2.2.2.2.2.2.2.2.2.2.2.1,y7.2.2.2.2.2.2.2.2.2.2.2.2.2.2.1,y7.2.2.2.2.2.2.2.2.2.2.2.2.2.2.2.1,y7.2.2.2.2.2.2.2.2.2.2.2.2.2.2.2.2.1,y7.2.2.2.2.2.2.2.2.2.2.2.2.2.2.2.2.2.1,y7.2.2.2.2.2.2.2.2.2.2.2.2.2.2.2.2.2.2.1,y7.2.2.2.2.2.2.2.2.2.2.2.2.2.2.2.2.2.2.2.1,y7.2.2.2.2.2.2.2.2.2.2.2.2.2.2.2.2.2.2.2.2.1,y7.2.2.2.2.2.2.2.2.2.2.2.2.2.2.2.2.2.2.2.2.2.1,()))).bind fun y11 =>
 (zq1074 y11.2.2.2.2.2.2.2.2.2.2.2.2.1).bind fun y12 =>
 (req ((decide (0 ≤ aop .quo .i64 (lenL y11.2.2.2.2.2.2.2.2.2.2.2.2.1) 2)) && (decide (aop .quo .i64 (lenL y11.2.2.2.2.2.2.2.2.2.2.2.2.1) 2 ≤ lenL y11.2.2.2.2.2.2.2.2.2.2.2.2.1))) <|
 (zq1554 (subL y11.2.2.2.2.2.2.2.2.2.2.2.2.1 0 (aop .quo .i64 (lenL y11.2.2.2.2.2.2.2.2.2.2.2.2.1) 2)) y11.2.2.2.2.2.2.2.2.2.2.2.2.1 3).bind fun y13 =>
 some (((),(),(),(y11.1.2.2.2.1.1,()),(),(y11.1.2.2.2.2.2.1.1,()),(),(),(),(),(),(),()),(y11.2.1,y11.2.2.1,y11.2.2.2.1,(y11.2.2.2.2.1.1,y11.2.2.2.2.1.2.1,y11.2.2.2.2.1.2.2.1,y11.2.2.2.2.1.2.2.2.1,()),(y11.2.2.2.2.2.1.1,()),(y11.2.2.2.2.2.2.1.1,y11.2.2.2.2.2.2.1.2.1,y11.2.2.2.2.2.2.1.2.2.1,y11.2.2.2.2.2.2.1.2.2.2.1,()),(y11.2.2.2.2.2.2.2.1.1,y11.2.2.2.2.2.2.2.1.2.1,y11.2.2.2.2.2.2.2.1.2.2.1,y11.2.2.2.2.2.2.2.1.2.2.2.1,()),(y11.2.2.2.2.2.2.2.2.1.1,y11.2.2.2.2.2.2.2.2.1.2.1,y11.2.2.2.2.2.2.2.2.1.2.2.1,y11.2.2.2.2.2.2.2.2.1.2.2.2.1,()),(y11.2.2.2.2.2.2.2.2.2.1.1,y11.2.2.2.2.2.2.2.2.2.1.2.1,y11.2.2.2.2.2.2.2.2.2.1.2.2.1,()),(y11.2.2.2.2.2.2.2.2.2.2.1.1,y11.2.2.2.2.2.2.2.2.2.2.1.2.1,y11.2.2.2.2.2.2.2.2.2.2.1.2.2.1,()),y11.2.2.2.2.2.2.2.2.2.2.2.1,(y12.1.2.2.1,()),y13.1,y11.2.2.2.2.2.2.2.2.2.2.2.2.1,y11.2.2.2.2.2.2.2.2.2.2.2.2.2.1,y11.2.2.2.2.2.2.2.2.2.2.2.2.2.2.1,y11.2.2.2.2.2.2.2.2.2.2.2.2.2.2.2.1,y11.2.2.2.2.2.2.2.2.2.2.2.2.2.2.2.2.1,y11.2.2.2.2.2.2.2.2.2.2.2.2.2.2.2.2.2.1,y11.2.2.2.2.2.2.2.2.2.2.2.2.2.2.2.2.2.2.1,y11.2.2.2.2.2.2.2.2.2.2.2.2.2.2.2.2.2.2.2.1,y12.1.1.1,y12.1.2.1,y11.2.2.2.2.2.2.2.2.2.2.2.2.2.2.2.2.2.2.2.2.1,y11.2.2.2.2.2.2.2.2.2.2.2.2.2.2.2.2.2.2.2.2.2.1,y11.2.2.2.2.2.2.2.2.2.2.2.2.2.2.2.2.2.2.2.2.2.2.1,y12.1.1.2,()))).bind fun y14 =>
 req ((decide (0 ≤ aop .quo .i64 (lenL y14.2.2.2.2.2.2.2.2.2.2.2.2.2.2.1) 2)) && (decide (aop .quo .i64 (lenL y14.2.2.2.2.2.2.2.2.2.2.2.2.2.2.1) 2 ≤ lenL y14.2.2.2.2.2.2.2.2.2.2.2.2.2.2.1))) <|
 (zq1569 (subL y14.2.2.2.2.2.2.2.2.2.2.2.2.2.2.1 0 (aop .quo .i64 (lenL y14.2.2.2.2.2.2.2.2.2.2.2.2.2.2.1) 2)) y14.2.2.2.2.2.2.2.2.2.2.2.2.2.1).bind fun y15 =>
 (zq465 ([y14.2.2.2.2.2.1.1] : List Ev)).bind fun y16 =>
 (zq132 y14.2.2.2.2.2.2.1.1 y14.2.2.2.2.2.2.1.2.1 y14.2.2.2.2.2.2.1.2.2.1 y14.2.2.2.2.2.2.1.2.2.2.1 y14.2.2.2.2.2.2.2.2.2.2.2.2.2.2.1 (y14.2.2.2.2.2.2.2.2.2.2.2.2.2.2.2.1,y14.2.2.2.2.2.2.2.2.2.2.2.2.2.2.2.2.2.2.2.2.2.2.2.2.1) y14.2.2.2.2.1.1 y14.2.2.2.2.1.2.1 y14.2.2.2.2.1.2.2.1 y14.2.2.2.2.1.2.2.2.1 y14.2.1 (y14.2.2.2.1,y14.2.2.1)).bind fun y17 =>
 br (!y17.1)
 (some (Sum.inl (((false,()),()),(y14.2.1,y14.2.2.1,y14.2.2.2.1,()))))
 ((loopN zq820 FUEL (((),(),(),(y14.1.2.2.2.1.1,()),(),(y14.1.2.2.2.2.2.1.1,()),(),(),(),(),(),(),(),(),(),(0,()),()),(y14.2.1,y14.2.2.1,y14.2.2.2.1,(y14.2.2.2.2.1.1,y14.2.2.2.2.1.2.1,y14.2.2.2.2.1.2.2.1,y14.2.2.2.2.1.2.2.2.1,()),(y14.2.2.2.2.2.1.1,()),(y14.2.2.2.2.2.2.1.1,y14.2.2.2.2.2.2.1.2.1,y14.2.2.2.2.2.2.1.2.2.1,y14.2.2.2.2.2.2.1.2.2.2.1,()),(y14.2.2.2.2.2.2.2.1.1,y14.2.2.2.2.2.2.2.1.2.1,y14.2.2.2.2.2.2.2.1.2.2.1,y14.2.2.2.2.2.2.2.1.2.2.2.1,()),(y14.2.2.2.2.2.2.2.2.1.1,y14.2.2.2.2.2.2.2.2.1.2.1,y14.2.2.2.2.2.2.2.2.1.2.2.1,y14.2.2.2.2.2.2.2.2.1.2.2.2.1,()),(y14.2.2.2.2.2.2.2.2.2.1.1,y14.2.2.2.2.2.2.2.2.2.1.2.1,y14.2.2.2.2.2.2.2.2.2.1.2.2.1,()),(y14.2.2.2.2.2.2.2.2.2.2.1.1,y14.2.2.2.2.2.2.2.2.2.2.1.2.1,y14.2.2.2.2.2.2.2.2.2.2.1.2.2.1,()),y14.2.2.2.2.2.2.2.2.2.2.2.1,(y14.2.2.2.2.2.2.2.2.2.2.2.2.1.1,()),y14.2.2.2.2.2.2.2.2.2.2.2.2.2.1,y15.1,(y16.1.1,y16.1.2.1,y16.1.2.2.1,y16.1.2.2.2.1,()),y16.2.1,y14.2.2.2.2.2.2.2.2.2.2.2.2.2.2.1,y14.2.2.2.2.2.2.2.2.2.2.2.2.2.2.2.1,y14.2.2.2.2.2.2.2.2.2.2.2.2.2.2.2.2.1,y14.2.2.2.2.2.2.2.2.2.2.2.2.2.2.2.2.2.1,zq898 y14.2.2.2.2.2.2.2.2.2.2.2.2.2.2.2.2.2.2.1,y14.2.2.2.2.2.2.2.2.2.2.2.2.2.2.2.2.2.2.2.1,y14.2.2.2.2.2.2.2.2.2.2.2.2.2.2.2.2.2.2.2.2.1,y14.2.2.2.2.2.2.2.2.2.2.2.2.2.2.2.2.2.2.2.2.2.1,y14.2.2.2.2.2.2.2.2.2.2.2.2.2.2.2.2.2.2.2.2.2.2.1,y14.2.2.2.2.2.2.2.2.2.2.2.2.2.2.2.2.2.2.2.2.2.2.2.1,y16.1.2.2.2.2.1,y16.1.2.2.2.2.2.1.1,y14.2.2.2.2.2.2.2.2.2.2.2.2.2.2.2.2.2.2.2.2.2.2.2.2.1,y14.2.2.2.2.2.2.2.2.2.2.2.2.2.2.2.2.2.2.2.2.2.2.2.2.2.1,y14.2.2.2.2.2.2.2.2.2.2.2.2.2.2.2.2.2.2.2.2.2.2.2.2.2.2.1,y14.2.2.2.2.2.2.2.2.2.2.2.2.2.2.2.2.2.2.2.2.2.2.2.2.2.2.2.1,y16.1.2.2.2.2.2.1.2,()))).bind fun y18 =>
 (loopN zq841 FUEL (((),(0,()),()),(y18.2.1,y18.2.2.1,y18.2.2.2.1,(y18.2.2.2.2.1.1,y18.2.2.2.2.1.2.1,y18.2.2.2.2.1.2.2.1,y18.2.2.2.2.1.2.2.2.1,()),(y18.2.2.2.2.2.1.1,()),(y18.2.2.2.2.2.2.1.1,y18.2.2.2.2.2.2.1.2.1,y18.2.2.2.2.2.2.1.2.2.1,y18.2.2.2.2.2.2.1.2.2.2.1,()),(y18.2.2.2.2.2.2.2.1.1,y18.2.2.2.2.2.2.2.1.2.1,y18.2.2.2.2.2.2.2.1.2.2.1,y18.2.2.2.2.2.2.2.1.2.2.2.1,()),(y18.2.2.2.2.2.2.2.2.1.1,y18.2.2.2.2.2.2.2.2.1.2.1,y18.2.2.2.2.2.2.2.2.1.2.2.1,()),(y18.2.2.2.2.2.2.2.2.2.1.1,y18.2.2.2.2.2.2.2.2.2.1.2.1,y18.2.2.2.2.2.2.2.2.2.1.2.2.1,()),zq898 y18.2.2.2.2.2.2.2.2.2.2.1,(y18.2.2.2.2.2.2.2.2.2.2.2.1.1,()),zq898 y18.2.2.2.2.2.2.2.2.2.2.2.2.1,zq898 y18.2.2.2.2.2.2.2.2.2.2.2.2.2.1,(y18.2.2.2.2.2.2.2.2.2.2.2.2.2.2.1.1,y18.2.2.2.2.2.2.2.2.2.2.2.2.2.2.1.2.1,y18.2.2.2.2.2.2.2.2.2.2.2.2.2.2.1.2.2.1,y18.2.2.2.2.2.2.2.2.2.2.2.2.2.2.1.2.2.2.1,()),y18.2.2.2.2.2.2.2.2.2.2.2.2.2.2.2.1,y18.2.2.2.2.2.2.2.2.2.2.2.2.2.2.2.2.1,y18.2.2.2.2.2.2.2.2.2.2.2.2.2.2.2.2.2.1,y18.2.2.2.2.2.2.2.2.2.2.2.2.2.2.2.2.2.2.1,y18.2.2.2.2.2.2.2.2.2.2.2.2.2.2.2.2.2.2.2.1,zq898 y18.2.2.2.2.2.2.2.2.2.2.2.2.2.2.2.2.2.2.2.2.1,zq898 y18.2.2.2.2.2.2.2.2.2.2.2.2.2.2.2.2.2.2.2.2.2.1,y18.2.2.2.2.2.2.2.2.2.2.2.2.2.2.2.2.2.2.2.2.2.2.1,y18.2.2.2.2.2.2.2.2.2.2.2.2.2.2.2.2.2.2.2.2.2.2.2.1,zq898 y18.2.2.2.2.2.2.2.2.2.2.2.2.2.2.2.2.2.2.2.2.2.2.2.2.1,y18.2.2.2.2.2.2.2.2.2.2.2.2.2.2.2.2.2.2.2.2.2.2.2.2.2.1,y18.2.2.2.2.2.2.2.2.2.2.2.2.2.2.2.2.2.2.2.2.2.2.2.2.2.2.1,y18.2.2.2.2.2.2.2.2.2.2.2.2.2.2.2.2.2.2.2.2.2.2.2.2.2.2.2.1,y18.2.2.2.2.2.2.2.2.2.2.2.2.2.2.2.2.2.2.2.2.2.2.2.2.2.2.2.2.1,y18.2.2.2.2.2.2.2.2.2.2.2.2.2.2.2.2.2.2.2.2.2.2.2.2.2.2.2.2.2.1,(y18.2.2.2.2.2.2.2.2.2.2.2.1.1,()),()))).bind fun y19 =>
 (loopN zq838 FUEL (((),(0,()),()),(y19.2.1,y19.2.2.1,y19.2.2.2.1,(y19.2.2.2.2.1.1,y19.2.2.2.2.1.2.1,y19.2.2.2.2.1.2.2.1,y19.2.2.2.2.1.2.2.2.1,()),(y19.2.2.2.2.2.1.1,()),(y19.2.2.2.2.2.2.1.1,y19.2.2.2.2.2.2.1.2.1,y19.2.2.2.2.2.2.1.2.2.1,y19.2.2.2.2.2.2.1.2.2.2.1,()),(y19.2.2.2.2.2.2.2.1.1,y19.2.2.2.2.2.2.2.1.2.1,y19.2.2.2.2.2.2.2.1.2.2.1,y19.2.2.2.2.2.2.2.1.2.2.2.1,()),(y19.2.2.2.2.2.2.2.2.1.1,y19.2.2.2.2.2.2.2.2.1.2.1,y19.2.2.2.2.2.2.2.2.1.2.2.1,()),(y19.2.2.2.2.2.2.2.2.2.1.1,y19.2.2.2.2.2.2.2.2.2.1.2.1,y19.2.2.2.2.2.2.2.2.2.1.2.2.1,()),y19.2.2.2.2.2.2.2.2.2.2.1,(y19.2.2.2.2.2.2.2.2.2.2.2.1.1,()),y19.2.2.2.2.2.2.2.2.2.2.2.2.1,y19.2.2.2.2.2.2.2.2.2.2.2.2.2.1,(y19.2.2.2.2.2.2.2.2.2.2.2.2.2.2.1.1,y19.2.2.2.2.2.2.2.2.2.2.2.2.2.2.1.2.1,y19.2.2.2.2.2.2.2.2.2.2.2.2.2.2.1.2.2.1,y19.2.2.2.2.2.2.2.2.2.2.2.2.2.2.1.2.2.2.1,()),y19.2.2.2.2.2.2.2.2.2.2.2.2.2.2.2.1,y19.2.2.2.2.2.2.2.2.2.2.2.2.2.2.2.2.1,y19.2.2.2.2.2.2.2.2.2.2.2.2.2.2.2.2.2.1,y19.2.2.2.2.2.2.2.2.2.2.2.2.2.2.2.2.2.2.1,y19.2.2.2.2.2.2.2.2.2.2.2.2.2.2.2.2.2.2.2.1,y19.2.2.2.2.2.2.2.2.2.2.2.2.2.2.2.2.2.2.2.2.1,y19.2.2.2.2.2.2.2.2.2.2.2.2.2.2.2.2.2.2.2.2.2.1,y19.2.2.2.2.2.2.2.2.2.2.2.2.2.2.2.2.2.2.2.2.2.2.1,y19.2.2.2.2.2.2.2.2.2.2.2.2.2.2.2.2.2.2.2.2.2.2.2.1,y19.2.2.2.2.2.2.2.2.2.2.2.2.2.2.2.2.2.2.2.2.2.2.2.2.1,y19.2.2.2.2.2.2.2.2.2.2.2.2.2.2.2.2.2.2.2.2.2.2.2.2.2.1,y19.2.2.2.2.2.2.2.2.2.2.2.2.2.2.2.2.2.2.2.2.2.2.2.2.2.2.1,y19.2.2.2.2.2.2.2.2.2.2.2.2.2.2.2.2.2.2.2.2.2.2.2.2.2.2.2.1,y19.2.2.2.2.2.2.2.2.2.2.2.2.2.2.2.2.2.2.2.2.2.2.2.2.2.2.2.2.1,y19.2.2.2.2.2.2.2.2.2.2.2.2.2.2.2.2.2.2.2.2.2.2.2.2.2.2.2.2.2.1,(y19.2.2.2.2.2.2.2.2.2.2.2.2.2.2.2.2.2.2.2.2.2.2.2.2.2.2.2.2.2.2.1.1,()),()))).bind fun y20 =>
 (loopN zq823 FUEL (((),(),(),(y18.1.2.2.2.1.1,()),(),(y18.1.2.2.2.2.2.1.1,()),(),(0,()),()),(y20.2.1,y20.2.2.1,y20.2.2.2.1,(y20.2.2.2.2.1.1,y20.2.2.2.2.1.2.1,y20.2.2.2.2.1.2.2.1,y20.2.2.2.2.1.2.2.2.1,()),(y20.2.2.2.2.2.1.1,()),(y20.2.2.2.2.2.2.1.1,y20.2.2.2.2.2.2.1.2.1,y20.2.2.2.2.2.2.1.2.2.1,y20.2.2.2.2.2.2.1.2.2.2.1,()),(y20.2.2.2.2.2.2.2.1.1,y20.2.2.2.2.2.2.2.1.2.1,y20.2.2.2.2.2.2.2.1.2.2.1,y20.2.2.2.2.2.2.2.1.2.2.2.1,()),y20.2.2.2.2.2.2.2.2.2.2.2.2.2.2.2.1,y20.2.2.2.2.2.2.2.2.2.2.2.2.2.2.2.2.1,y20.2.2.2.2.2.2.2.2.2.2.2.2.2.2.2.2.2.1,y20.2.2.2.2.2.2.2.2.2.2.2.2.2.2.2.2.2.2.1,y20.2.2.2.2.2.2.2.2.2.2.2.2.2.2.2.2.2.2.2.1,y20.2.2.2.2.2.2.2.2.2.2.2.2.2.2.2.2.2.2.2.2.2.2.2.2.2.2.1,y20.2.2.2.2.2.2.2.2.2.2.2.2.2.2.2.2.2.2.2.2.2.2.2.2.2.2.2.1,()))).bind fun y21 =>
 req (i64ok (y21.1.2.2.2.2.2.1.1 + 1)) <|
 rec (((),(),(),(y21.1.2.2.2.1.1,()),(),(y21.1.2.2.2.2.2.1.1 + 1,()),()),(y21.2.1,y21.2.2.1,y21.2.2.2.1,(y21.2.2.2.2.1.1,y21.2.2.2.2.1.2.1,y21.2.2.2.2.1.2.2.1,y21.2.2.2.2.1.2.2.2.1,()),(y21.2.2.2.2.2.1.1,()),(y21.2.2.2.2.2.2.1.1,y21.2.2.2.2.2.2.1.2.1,y21.2.2.2.2.2.2.1.2.2.1,y21.2.2.2.2.2.2.1.2.2.2.1,()),(y21.2.2.2.2.2.2.2.1.1,y21.2.2.2.2.2.2.2.1.2.1,y21.2.2.2.2.2.2.2.1.2.2.1,y21.2.2.2.2.2.2.2.1.2.2.2.1,()),y21.2.2.2.2.2.2.2.2.1,y21.2.2.2.2.2.2.2.2.2.1,y21.2.2.2.2.2.2.2.2.2.2.1,y21.2.2.2.2.2.2.2.2.2.2.2.1,y21.2.2.2.2.2.2.2.2.2.2.2.2.1,y21.2.2.2.2.2.2.2.2.2.2.2.2.2.1,())))))
 (some (Sum.inr (((),(v2,v3,v4,())))))
def zq851 (a0 : Int) (a1 : Int) (a2 : Int) (a3 : Int) (a4 : List En) (a5 : List Int × List (List En)) (a6 : Ev) : Option (Bool × Unit) :=
 zq857.bind fun y1 =>
 (br (!y1.1)
 (some true)
 (zq877.bind fun y2 =>
 some (!y2.1))).bind fun c2 =>
 (br c2
 (some true)
 (zq892.bind fun y3 =>
 some (!y3.1))).bind fun c3 =>
 (br c3
 (some true)
 (zq882.bind fun y4 =>
 some (!y4.1))).bind fun c4 =>
 br c4
 (some (false,()))
 (req (room (lenL ([] : List En)) (lenL a4)) <|
 (loopN zq826 FUEL (((()),(()),(()),(0,()),()),(a4,a5.2,a5.1,(a0,a1,a2,a3,()),(a6,()),(a0,a1,a2,a3,()),([] : List En) ++ a4,([] : List Int),([] : List (List En)),()))).bind fun y5 =>
 (zq58 y5.2.2.2.2.1.1 y5.2.2.2.2.1.2.1 y5.2.2.2.2.1.2.2.1 y5.2.2.2.2.1.2.2.2.1 y5.2.1 (y5.2.2.2.1,y5.2.2.1)).bind fun y6 =>
 br (decide (y6.1 = 0))
 ((zq73 y5.2.2.2.2.1.1 y5.2.2.2.2.2.1.1).bind fun y7 =>
 br (decide (y7.1 = 0))
 ((zq109 y5.2.2.2.2.1.1 y5.2.2.2.2.1.2.1 y5.2.2.2.2.1.2.2.1 y5.2.2.2.2.1.2.2.2.1 y5.2.1 (y5.2.2.2.1,y5.2.2.1) y5.2.2.2.2.2.1.1).bind fun y8 =>
 (loopN zq817 FUEL (((()),(()),(()),(y7.1,()),(()),(0,()),()),(y5.2.1,y5.2.2.1,y5.2.2.2.1,(y5.2.2.2.2.1.1,y5.2.2.2.2.1.2.1,y5.2.2.2.2.1.2.2.1,y5.2.2.2.2.1.2.2.2.1,()),(y5.2.2.2.2.2.1.1,()),(y5.2.2.2.2.2.2.1.1,y5.2.2.2.2.2.2.1.2.1,y5.2.2.2.2.2.2.1.2.2.1,y5.2.2.2.2.2.2.1.2.2.2.1,()),(y8.1.1,y8.1.2.1,y8.1.2.2.1,y8.1.2.2.2.1,()),y5.2.2.2.2.2.2.2.1,y5.2.2.2.2.2.2.2.2.1,y8.1.2.2.2.2.1,y8.1.2.2.2.2.2.1.1,y5.2.2.2.2.2.2.2.2.2.1,y8.1.2.2.2.2.2.1.2,()))).bind fun y9 =>
 sumC y9 (fun y10 =>
 some (y10.1.1.1,())) (fun y11 =>
 some (true,())))
 ((loopN zq817 FUEL (((()),(()),(()),(y7.1,()),(()),(0,()),()),(y5.2.1,y5.2.2.1,y5.2.2.2.1,(y5.2.2.2.2.1.1,y5.2.2.2.2.1.2.1,y5.2.2.2.2.1.2.2.1,y5.2.2.2.2.1.2.2.2.1,()),(y5.2.2.2.2.2.1.1,()),(y5.2.2.2.2.2.2.1.1,y5.2.2.2.2.2.2.1.2.1,y5.2.2.2.2.2.2.1.2.2.1,y5.2.2.2.2.2.2.1.2.2.2.1,()),(0,0,0,0,()),y5.2.2.2.2.2.2.2.1,y5.2.2.2.2.2.2.2.2.1,([] : List En),([] : List Int),y5.2.2.2.2.2.2.2.2.2.1,([] : List (List En)),()))).bind fun y8 =>
 sumC y8 (fun y9 =>
 some (y9.1.1.1,())) (fun y10 =>
 some (true,()))))
 (br (decide (y6.1 = 0))
 ((zq109 y5.2.2.2.2.1.1 y5.2.2.2.2.1.2.1 y5.2.2.2.2.1.2.2.1 y5.2.2.2.2.1.2.2.2.1 y5.2.1 (y5.2.2.2.1,y5.2.2.1) y5.2.2.2.2.2.1.1).bind fun y7 =>
 (loopN zq817 FUEL (((()),(()),(()),(y6.1,()),(()),(0,()),()),(y5.2.1,y5.2.2.1,y5.2.2.2.1,(y5.2.2.2.2.1.1,y5.2.2.2.2.1.2.1,y5.2.2.2.2.1.2.2.1,y5.2.2.2.2.1.2.2.2.1,()),(y5.2.2.2.2.2.1.1,()),(y5.2.2.2.2.2.2.1.1,y5.2.2.2.2.2.2.1.2.1,y5.2.2.2.2.2.2.1.2.2.1,y5.2.2.2.2.2.2.1.2.2.2.1,()),(y7.1.1,y7.1.2.1,y7.1.2.2.1,y7.1.2.2.2.1,()),y5.2.2.2.2.2.2.2.1,y5.2.2.2.2.2.2.2.2.1,y7.1.2.2.2.2.1,y7.1.2.2.2.2.2.1.1,y5.2.2.2.2.2.2.2.2.2.1,y7.1.2.2.2.2.2.1.2,()))).bind fun y8 =>
 sumC y8 (fun y9 =>
 some (y9.1.1.1,())) (fun y10 =>
 some (true,())))
 ((loopN zq817 FUEL (((()),(()),(()),(y6.1,()),(()),(0,()),()),(y5.2.1,y5.2.2.1,y5.2.2.2.1,(y5.2.2.2.2.1.1,y5.2.2.2.2.1.2.1,y5.2.2.2.2.1.2.2.1,y5.2.2.2.2.1.2.2.2.1,()),(y5.2.2.2.2.2.1.1,()),(y5.2.2.2.2.2.2.1.1,y5.2.2.2.2.2.2.1.2.1,y5.2.2.2.2.2.2.1.2.2.1,y5.2.2.2.2.2.2.1.2.2.2.1,()),(0,0,0,0,()),y5.2.2.2.2.2.2.2.1,y5.2.2.2.2.2.2.2.2.1,([] : List En),([] : List Int),y5.2.2.2.2.2.2.2.2.2.1,([] : List (List En)),()))).bind fun y7 =>
 sumC y7 (fun y8 =>
 some (y8.1.1.1,())) (fun y9 =>
 some (true,())))))
end Go.Ma
namespace Go.Ma
open Go
theorem zq396 {x : Ls} (h : chkLs x = 0) : chkA x.ad = 0 ∧ whoOk x.who = true ∧ betw x.upto 0 10499 = true := by
 unfold chkLs at h
 split at h
 ·rename_i h1; exact absurd h h1
 split at h
 ·cases h
 split at h
 ·cases h
 ·rename_i h1 h2 h3
  exact ⟨zc49.1 h1,by simpa using h2,by simpa using h3⟩
theorem zq394 : ∀ {l : List Ls},zq393 l = 0 → ∀ x ∈ l,chkLs x = 0
 | [],_,x,hx => by cases hx
 | y :: r,h,x,hx => by
  unfold zq393 at h
  split at h
  ·rename_i h1; exact absurd h h1
  ·rename_i h1
   rcases zc28.1 hx with rfl | hx
   ·exact zc49.1 h1
   ·exact zq394 h x hx
theorem zq275 {l : List Ls} {now : Int} (h : allC l now = 0) : l.length ≤ 20 ∧ (∀ x ∈ l,chkLs x = 0) ∧ ascL l = true ∧ betw now 0 9999 = true := by
 have h0 := zq273 h
 unfold allC at h
 rw [if_neg (by omega)] at h
 split at h
 ·rename_i h1; exact absurd h h1
 split at h
 ·cases h
 split at h
 ·cases h
 ·rename_i h1 h2 h3
  exact ⟨h0,zq394 (zc49.1 h1),by simpa using h2,by simpa using h3⟩
def adIn (l : List Ad) : Prop := ∀ a ∈ l,a.In
def backB : Option Ad → Ad → Bool
 | some b,a => decide (ordA b a ≥ 0)
 | none,_ => false
def keptF (p : Pf) : Option Ad → List Ad → Int
 | _,[] => 0
 | prev,a :: r => if chkA a ≠ 0 then chkA a else if holds p a = false then 5 else if backB prev a = true then 4 else keptF p (some a) r
def zq403 (p : Pf) (kp : List Ad) : Int := if chkP p ≠ 0 then chkP p else if ¬ ((wid p.ad.v6 : Nat) : Int) - p.bits ≤ 4 ∨ kp.length > 6 then 2 else keptF p none kp
end Go.Ma
namespace Go.Ma
open Go
theorem zq749 (o : Option Nat) : decide (idxI o ≥ 0) = o.isSome := by
 cases o with
 | none => rfl
 | some k =>
  have : idxI (some k) ≥ 0 := by show (k : Int) ≥ 0; omega
  simp [this]
def ofF (p : Pf) : List Ls → List Ls → Int
 | _,[] => 0
 | bf,x :: r => if holds p x.ad = false then 5 else if bf.any (whoP x.who) = true then 6 else ofF p (bf ++ [x]) r
def chkOf (p : Pf) (kp : List Ad) (l : List Ls) (now : Int) : Int := if zq403 p kp ≠ 0 then zq403 p kp else if allC l now ≠ 0 then allC l now else ofF p [] l
theorem zq405 {p : Pf} {kp : List Ad} (h : zq403 p kp = 0) : chkP p = 0 ∧ ((wid p.ad.v6 : Nat) : Int) - p.bits ≤ 4 ∧ kp.length ≤ 6 := by
 unfold zq403 at h
 split at h
 ·rename_i h1; exact absurd h h1
 split at h
 ·cases h
 ·rename_i h1 h2
  simp only [not_or,zc49] at h2
  exact ⟨zc49.1 h1,h2.1,by omega⟩
end Go.Ma
namespace Go.Ma
open Go
def zq699 (p : Pf) : Nat := wid p.ad.v6 - p.bits.toNat
def addrI (p : Pf) (i : Nat) : Ad := ofNum p.ad.v6 (p.ad.num + i)
theorem zq1129 {p : Pf} (hp : p.In) (cp : chkP p = 0) (hn : ((wid p.ad.v6 : Nat) : Int) - p.bits ≤ 4) : zq699 p ≤ 4 ∧ 2 ^ zq699 p ≤ 16 ∧ p.ad.num % 2 ^ zq699 p = 0 ∧ p.ad.num + 2 ^ zq699 p ≤ 2 ^ wid p.ad.v6 := by
 obtain ⟨b1,b2⟩ := zq401 cp
 have h1 : zq699 p ≤ 4 := by unfold zq699; omega
 have h2 : 2 ^ zq699 p ≤ 2 ^ 4 := Nat.pow_le_pow_right (by omega) h1
 have h3 : p.ad.num % 2 ^ zq699 p = 0 := (zq503 _ _).1 ((zq501 hp.1.wf p.bits).1 (zq402 cp))
 have h4 := zq1487 p.ad ⟨hp.1.wf,zq400 cp⟩
 refine ⟨h1,h2,h3,?_⟩
 have hk : zq699 p ≤ wid p.ad.v6 := by unfold zq699; omega
 have h5 : 2 ^ wid p.ad.v6 = 2 ^ zq699 p * 2 ^ (wid p.ad.v6 - zq699 p) := by rw [← Nat.pow_add]; congr 1; omega
 obtain ⟨m,hm⟩ := Nat.dvd_of_mod_eq_zero h3
 rw [hm,h5] at h4 ⊢
 have := Nat.lt_of_mul_lt_mul_left h4
 calc 2 ^ zq699 p * m + 2 ^ zq699 p = 2 ^ zq699 p * (m + 1) := by rw [Nat.mul_add,Nat.mul_one]
  _ ≤ _ := Nat.mul_le_mul_left _ this
theorem zq1816 (v : Bool) : 2 ^ wid v ≤ 340282366920938463463374607431768211456 := by cases v <;> decide
theorem zq1169 {v : Bool} {n : Nat} (h : n < 2 ^ wid v) : (ofNum v n).In := by
 have := zq1816 v
 unfold ofNum
 exact ⟨⟨by simp only; omega,by simp only; omega⟩,by simp only; omega,by simp only; omega⟩
theorem zq1168 {v : Bool} {n : Nat} (h : n < 2 ^ wid v) : chkA (ofNum v n) = 0 := by
 unfold chkA ofNum
 cases v
 ·rw [show wid false = 32 from rfl] at h
  rw [if_neg]
  simp only
  omega
 ·simp
theorem zq1237 (x k : Nat) (hx : x < 18446744073709551616) (hk : k ≤ 64) (hm : x % 2 ^ k = 0) : aop .or .u64 (x : Int) ((2 ^ k - 1 : Nat) : Int) = ((x + (2 ^ k - 1) : Nat) : Int) := by
 have hp := Nat.two_pow_pos k
 have hle : 2 ^ k ≤ 2 ^ 64 := Nat.pow_le_pow_right (by omega) hk
 obtain ⟨m,rfl⟩ := Nat.dvd_of_mod_eq_zero hm
 have hlt : 2 ^ k * m + 2 ^ k ≤ 18446744073709551616 := by
  have h5 : (18446744073709551616 : Nat) = 2 ^ k * 2 ^ (64 - k) := by rw [← Nat.pow_add]; rw [show k + (64 - k) = 64 by omega]
  rw [h5] at hx ⊢
  have := Nat.lt_of_mul_lt_mul_left hx
  calc 2 ^ k * m + 2 ^ k = 2 ^ k * (m + 1) := by rw [Nat.mul_add,Nat.mul_one]
   _ ≤ _ := Nat.mul_le_mul_left _ this
 have e1 : ∀ n : Nat,n < 18446744073709551616 → (BitVec.ofInt 64 (n : Int)).toNat = n := fun n hn => by
  rw [BitVec.toNat_ofInt]
  have : ((n : Int) % ((2 ^ 64 : Nat) : Int)) = (n : Int) := Int.emod_eq_of_lt (by omega) (by omega)
  rw [this]; rfl
 show IntKind.u64.wrap (((BitVec.ofInt 64 ((2 ^ k * m : Nat) : Int) ||| BitVec.ofInt 64 ((2 ^ k - 1 : Nat) : Int)).toNat : Nat) : Int) = _
 rw [BitVec.toNat_or,e1 _ (by omega),e1 _ (by omega),← Nat.two_pow_add_eq_or_of_lt (by omega),zq1823 (by omega) (by omega)]
theorem zq1330 {p : Pf} (hp : p.In) (cp : chkP p = 0) (hn : ((wid p.ad.v6 : Nat) : Int) - p.bits ≤ 4) : zq1332 p = some (addrI p (2 ^ zq699 p - 1),()) := by
 obtain ⟨b1,b2⟩ := zq401 cp
 obtain ⟨n1,n2,n3,n4⟩ := zq1129 hp cp hn
 have hpp := Nat.two_pow_pos (zq699 p)
 obtain ⟨⟨h1,h2⟩,h3,h4⟩ := hp.1
 unfold zq1332
 rw [zq1360 p.ad p.bits b1 b2,zq332,zq1104]
 show some _ = some _
 have k1 : wid p.ad.v6 - p.bits.toNat - 64 = 0 := by unfold zq699 at n1; omega
 have k2 : min (wid p.ad.v6 - p.bits.toNat) 64 = zq699 p := by unfold zq699 at n1 ⊢; omega
 rw [k1,k2]
 obtain ⟨hi,hhi⟩ := Int.eq_ofNat_of_zero_le h1
 obtain ⟨lo,hlo⟩ := Int.eq_ofNat_of_zero_le h3
 have hnum : p.ad.num = hi * 18446744073709551616 + lo := by unfold Ad.num; rw [hhi,hlo]; rfl
 have hlo2 : lo % 2 ^ zq699 p = 0 := by
  rw [hnum] at n3
  have h5 : (18446744073709551616 : Nat) = 2 ^ zq699 p * 2 ^ (64 - zq699 p) := by rw [← Nat.pow_add]; rw [show zq699 p + (64 - zq699 p) = 64 by omega]
  rw [h5,Nat.mul_left_comm] at n3
  rwa [Nat.mul_add_mod] at n3
 have o1 : aop .or .u64 p.ad.hi ((2 ^ 0 - 1 : Nat) : Int) = p.ad.hi := by
  rw [hhi,zq1237 hi 0 (by omega) (by omega) (Nat.mod_one _)]
  simp
 have o2 : aop .or .u64 p.ad.lo ((2 ^ zq699 p - 1 : Nat) : Int) = ((lo + (2 ^ zq699 p - 1) : Nat) : Int) := by
  rw [hlo,zq1237 lo (zq699 p) (by omega) (by omega) hlo2]
 simp only [o1,o2]
 have hlt : lo + 2 ^ zq699 p ≤ 18446744073709551616 := by
  have h5 : (18446744073709551616 : Nat) = 2 ^ zq699 p * 2 ^ (64 - zq699 p) := by rw [← Nat.pow_add]; rw [show zq699 p + (64 - zq699 p) = 64 by omega]
  obtain ⟨m,rfl⟩ := Nat.dvd_of_mod_eq_zero hlo2
  have hx : 2 ^ zq699 p * m < 2 ^ zq699 p * 2 ^ (64 - zq699 p) := by omega
  have := Nat.lt_of_mul_lt_mul_left hx
  rw [h5]
  calc 2 ^ zq699 p * m + 2 ^ zq699 p = 2 ^ zq699 p * (m + 1) := by rw [Nat.mul_add,Nat.mul_one]
   _ ≤ _ := Nat.mul_le_mul_left _ this
 unfold addrI ofNum
 rw [hnum,hhi]
 have q1 : (hi * 18446744073709551616 + lo + (2 ^ zq699 p - 1)) / 18446744073709551616 = hi := by omega
 have q2 : (hi * 18446744073709551616 + lo + (2 ^ zq699 p - 1)) % 18446744073709551616 = lo + (2 ^ zq699 p - 1) := by omega
 rw [q1,q2]
theorem zq243 {v : Bool} {n : Nat} (h : n + 1 < 2 ^ wid v) : zq245 (ofNum v n) = some (ofNum v (n + 1),true,()) := by
 unfold zq245
 simp only [zq354,zq553]
 have hadd : ∀ m : Nat,aop .add .u64 (m : Int) 1 = (((m + 1) % 18446744073709551616 : Nat) : Int) := fun m => by
  simp only [aop,zq1824]
  omega
 have hw := zq1816 v
 cases v
 ·rw [show wid false = 32 from rfl] at h
  have q1 : (n + 1) / 18446744073709551616 = 0 := by omega
  have q2 : n / 18446744073709551616 = 0 := by omega
  have q3 : (n % 18446744073709551616 + 1) % 18446744073709551616 = n + 1 := by omega
  have q4 : (n + 1) % 18446744073709551616 = n + 1 := by omega
  simp only [ofNum,hadd,zq356,zq332,q1,q2,q3,q4,zq354]
  rw [decide_eq_true (show (((n + 1 : Nat) : Int)) < 4294967296 by omega)]
 ·rw [show wid true = 128 from rfl] at h
  simp only [ofNum,hadd,zq358,zq332]
  by_cases hc : n % 18446744073709551616 + 1 = 18446744073709551616
  ·have q1 : (n + 1) / 18446744073709551616 = n / 18446744073709551616 + 1 := by omega
   have q2 : (n + 1) % 18446744073709551616 = 0 := by omega
   have q3 : (n / 18446744073709551616 + 1) % 18446744073709551616 = n / 18446744073709551616 + 1 := by omega
   rw [hc,Nat.mod_self,decide_eq_true (show ((0 : Nat) : Int) = 0 from rfl),zq358,q1,q2,q3]
   rw [decide_eq_false (show ¬ (((n / 18446744073709551616 + 1 : Nat) : Int)) = 0 by omega)]
   rfl
  ·have q1 : (n + 1) / 18446744073709551616 = n / 18446744073709551616 := by omega
   have q2 : (n + 1) % 18446744073709551616 = n % 18446744073709551616 + 1 := by omega
   have q3 : (n % 18446744073709551616 + 1) % 18446744073709551616 = n % 18446744073709551616 + 1 := by omega
   rw [q3,decide_eq_false (show ¬ (((n % 18446744073709551616 + 1 : Nat) : Int)) = 0 by omega),zq356,q1,q2]
theorem zq1170 {v : Bool} {n m : Nat} (h : n ≠ m) : ofNum v n ≠ ofNum v m := fun e => h (by have := congrArg Ad.num e; rwa [zq1161,zq1161] at this)
theorem zq268 (v : Bool) (base c : Nat) (h : base + c ≤ 2 ^ wid v) : ∀ (fuel d : Nat),d < fuel → d < c → allA (ofNum v (base + (c - 1))) fuel (ofNum v (base + (c - 1 - d))) = some ((List.range' (c - 1 - d) (d + 1)).map fun i => ofNum v (base + i))
 | 0,d,h,_ => by omega
 | fuel + 1,d,h1,h2 => by
  rw [allA]
  cases d with
  | zero =>
   rw [decide_eq_true (show ofNum v (base + (c - 1 - 0)) = ofNum v (base + (c - 1)) from rfl),zq358]
   rfl
  | succ d =>
   rw [decide_eq_false (zq1170 (by omega)),zq356,zq243 (by omega),zq332,zq358,show base + (c - 1 - (d + 1)) + 1 = base + (c - 1 - d) by omega,zq268 v base c h fuel d (by omega) (by omega)]
   have hr : List.range' (c - 1 - (d + 1)) (d + 1 + 1) = (c - 1 - (d + 1)) :: List.range' (c - 1 - d) (d + 1) := by
    rw [List.range'_succ]
    congr 2
    omega
   rw [Option.map_some,hr,List.map_cons]
def zq1774 (kp : List Ad) (b : List Ls) (a : Ad) : Bool := kp.any (fun x => decide (a = x)) || b.any (fun x => decide (x.ad = a))
def ixOut (kp : List Ad) : Option Nat → (((Int × Unit) × Unit) × (List Ad × Unit)) ⊕ ((Unit) × (List Ad × Unit))
 | some k => Sum.inl ((((k : Int),()),()),(kp,()))
 | none => Sum.inr ((),(kp,()))
theorem zq1605 {kp : List Ad} (hlen : kp.length ≤ 1048576) (a : Ad) : zq1604 kp a = some (kp.any (fun x => decide (a = x)),()) := by
 unfold zq1604 zq1617
 have := zq1087 (step := zq1610) (fun i => (((),(),(lenL kp,()),((i : Int),()),()),(kp,(a,()),()))) kp.length (fun i => some (ixOut kp ((zq657 (fun x => decide (a = x)) (kp.drop i)).map (· + i)))) (fun rec i hi hr => ?_) (fun rec => ?_) FUEL 0 (Nat.zero_le _) (zq703 (by omega))
 ·rw [List.drop_zero,show (fun x => x + 0) = (id : Nat → Nat) from rfl,Option.map_id] at this
  rw [show ((0 : Nat) : Int) = 0 from rfl] at this
  rw [this,zq332,← zq658]
  simp only [id]
  cases zq657 (fun x => decide (a = x)) kp with
  | none => rfl
  | some k =>
   simp only [ixOut,sumC,zq332]
   rw [decide_eq_true (show (k : Int) ≥ 0 by omega)]
   rfl
 ·obtain ⟨e,he⟩ : ∃ e,kp[i]? = some e := ⟨_,zc0 hi⟩
  simp only [zq1610]
  rw [decide_eq_true (show (i : Int) < lenL kp by unfold lenL; omega),zq358,zq1463 (zq753 (by omega) (by unfold lenL; omega)),zq709 he,zq332,zq659 he,zq578]
  by_cases hc : a = e
  ·simp only [hc,decide_true,zq358,if_true]
   rfl
  ·simp only [hc,decide_false,zq356]
   rw [show ((i : Int) + 1) = ((i + 1 : Nat) : Int) by omega,zq1463 (zq747 (by omega) (by omega)),hr]
   rfl
 ·simp only [zq1610]
  rw [decide_eq_false (show ¬ (kp.length : Int) < lenL kp by unfold lenL; omega),zq356,zc18 (zc47 _)]
  rfl
abbrev DT := (Bool × Int × Int × Int × Unit) × List Ad × List Ls × (Ad × Unit) × Unit
def tkOut (d : DT) : Option Nat → (((Int × Unit) × Unit) × DT) ⊕ ((Unit) × DT)
 | some k => Sum.inl ((((k : Int),()),()),d)
 | none => Sum.inr ((),d)
theorem zq1775 (p : Pf) {kp : List Ad} (hk : kp.length ≤ 1048576) {b : List Ls} (hb : b.length ≤ 1048576) (a : Ad) : zq193 p kp b a = some (zq1774 kp b a,()) := by
 unfold zq193 zq1774
 rw [zq1605 hk,zq332]
 have := zq1087 (step := zq187) (fun i => (((),(),(lenL b,()),((i : Int),()),()),((p.ad.v6,p.ad.hi,p.ad.lo,p.bits,()),kp,b,(a,()),()))) b.length (fun i => some (tkOut ((p.ad.v6,p.ad.hi,p.ad.lo,p.bits,()),kp,b,(a,()),()) ((zq657 (fun x => decide (x.ad = a)) (b.drop i)).map (· + i)))) (fun rec i hi hr => ?_) (fun rec => ?_) FUEL 0 (Nat.zero_le _) (zq703 (by omega))
 ·rw [List.drop_zero,show (fun x => x + 0) = (id : Nat → Nat) from rfl,Option.map_id] at this
  rw [show ((0 : Nat) : Int) = 0 from rfl] at this
  rw [this,zq332,← zq658 b]
  simp only [id]
  cases kp.any (fun x => decide (a = x))
  ·rw [zq356]
   cases zq657 (fun x => decide (x.ad = a)) b with
   | none => rfl
   | some k =>
    simp only [tkOut,sumC,zq332]
    rw [decide_eq_true (show (k : Int) ≥ 0 by omega)]
    rfl
  ·rfl
 ·obtain ⟨e,he⟩ : ∃ e,b[i]? = some e := ⟨_,zc0 hi⟩
  simp only [zq187]
  rw [decide_eq_true (show (i : Int) < lenL b by unfold lenL; omega),zq358,zq1463 (zq753 (by omega) (by unfold lenL; omega)),zq709 he,zq332,zq659 he,zq179,zq332,zq578]
  by_cases hc : e.ad = a
  ·simp only [hc,decide_true,zq358,if_true]
   rfl
  ·simp only [hc,decide_false,zq356]
   rw [show ((i : Int) + 1) = ((i + 1 : Nat) : Int) by omega,zq1463 (zq747 (by omega) (by omega)),hr]
   rfl
 ·simp only [zq187]
  rw [decide_eq_false (show ¬ (b.length : Int) < lenL b by unfold lenL; omega),zq356,zc18 (zc47 _)]
  rfl
def zq698 : Option Ad → Ad × Bool × Unit
 | some a => (a,true,())
 | none => (⟨false,0,0⟩,false,())
def zq700 (p : Pf) (kp : List Ad) (b : List Ls) : Option Ad := ((List.range (2 ^ zq699 p)).map (addrI p)).find? fun a => !zq1774 kp b a
theorem zq664 (p : Pf) {kp : List Ad} (hk : kp.length ≤ 1048576) {b : List Ls} (hb : b.length ≤ 1048576) : ∀ xs : List Ad,zq663 p kp b xs = some (zq698 (xs.find? fun a => !zq1774 kp b a))
 | [] => rfl
 | a :: r => by
  rw [zq663,zq1775 p hk hb,zq332,zq664 p hk hb r,zq332,List.find?_cons]
  cases zq1774 kp b a <;> rfl
theorem zq666 {p : Pf} (hp : p.In) (cp : chkP p = 0) (hn : ((wid p.ad.v6 : Nat) : Int) - p.bits ≤ 4) {kp : List Ad} (hk : kp.length ≤ 1048576) {b : List Ls} (hb : b.length ≤ 1048576) :
  zq174 p kp b = some (zq698 (zq700 p kp b)) := by
 obtain ⟨n1,n2,n3,n4⟩ := zq1129 hp cp hn
 have hpp := Nat.two_pow_pos (zq699 p)
 unfold zq174 zq700
 rw [zq1330 hp cp hn,zq332]
 have := zq268 p.ad.v6 p.ad.num (2 ^ zq699 p) n4 64 (2 ^ zq699 p - 1) (by omega) (by omega)
 rw [show 2 ^ zq699 p - 1 - (2 ^ zq699 p - 1) = 0 by omega,Nat.add_zero,zq1171 _ hp.1.wf,show 2 ^ zq699 p - 1 + 1 = 2 ^ zq699 p by omega,← List.range_eq_range'] at this
 show (allA (ofNum p.ad.v6 (p.ad.num + (2 ^ zq699 p - 1))) 64 p.ad).bind _ = _
 rw [this,zq332,zq664 p hk hb]
 rfl
end Go.Ma
namespace Go.Ma
open Go
theorem zq305 : ∀ {r : List Ls} {c : Ad},c.In → lsIn r → ascF c r = true → ∀ z ∈ r,rank c < rank z.ad
 | [],_,_,_,_,z,hz => by cases hz
 | y :: r,c,hc,hr,h,z,hz => by
  unfold ascF at h
  simp only [zc4,decide_eq_true_eq] at h
  have hy := hr y (by simp)
  have h1 := (zq1246 hc hy.1).1.1 h.1
  rcases zc28.1 hz with rfl | hz
  ·exact h1
  ·have := zq305 hy.1 (fun x hx => hr x (by simp [hx])) h.2 z hz
   omega
theorem zq308 : ∀ {l : List Ls},lsIn l → (ascL l = true ↔ l.Pairwise fun x y => rank x.ad < rank y.ad)
 | [],_ => by simp [ascL]
 | x :: r,h => by
  have hx := h x (by simp)
  have hr : lsIn r := fun y hy => h y (by simp [hy])
  rw [zc45,← zq308 hr]
  constructor
  ·intro h1
   have h1 : ascF x.ad r = true := h1
   refine ⟨zq305 hx.1 hr h1,?_⟩
   cases r with
   | nil => rfl
   | cons y r =>
    unfold ascF at h1
    simp only [zc4] at h1
    exact h1.2
  ·rintro ⟨h1,h2⟩
   show ascF x.ad r = true
   cases r with
   | nil => rfl
   | cons y r =>
    unfold ascF
    simp only [zc4,decide_eq_true_eq]
    exact ⟨(zq1246 hx.1 (hr y (by simp)).1).1.2 (h1 y (by simp)),h2⟩
theorem zq1002 {l : List Ls} (h : lsIn l) (now : Int) : lsIn (live l now) := fun x hx => h x (List.mem_filter.1 hx).1
theorem zq1001 {l : List Ls} (h : lsIn l) (ha : ascL l = true) (now : Int) : ascL (live l now) = true := (zq308 (zq1002 h now)).2 (((zq308 h).1 ha).filter _)
def posF (a : Ad) (b : List Ls) : Nat := (b.takeWhile fun y => decide (ordA y.ad a < 0)).length
theorem zq1299 (a : Ad) (b : List Ls) : posF a b ≤ b.length := (List.takeWhile_sublist _).length_le
theorem zq1302 {a : Ad} (ha : a.In) : ∀ {b : List Ls},lsIn b → ascL b = true → ∀ {h : Nat} {x : Ls},b[h]? = some x → (ordA x.ad a < 0 ↔ h < posF a b)
 | [],_,_,_,_,hx => by simp at hx
 | y :: r,hb,hs,h,x,hx => by
  have hy := hb y (by simp)
  have hr : lsIn r := fun z hz => hb z (by simp [hz])
  have hrs : ascL r = true := (zq308 hr).2 (zc45.1 ((zq308 hb).1 hs)).2
  have hyr := (zc45.1 ((zq308 hb).1 hs)).1
  unfold posF
  rw [List.takeWhile_cons]
  by_cases ho : ordA y.ad a < 0
  ·simp only [ho,decide_true,if_true,zc21]
   cases h with
   | zero =>
    simp only [zc13,zc2] at hx
    subst hx
    simp [ho]
   | succ h =>
    have := zq1302 ha hr hrs (h := h) (x := x) (by simpa using hx)
    unfold posF at this
    omega
  ·simp only [ho,decide_false,zc16,if_false,zc32]
   cases h with
   | zero =>
    simp only [zc13,zc2] at hx
    subst hx
    simp [ho]
   | succ h =>
    have hx' : r[h]? = some x := by simpa using hx
    have hm := zc5 hx'
    have h1 := hyr x hm
    have h2 := (zq1246 hy.1 ha).1
    have h3 := (zq1246 (hr x hm).1 ha).1
    constructor
    ·intro h4
     have := h3.1 h4
     have : ¬ rank y.ad < rank a := fun h => ho (h2.2 h)
     omega
    ·intro h4; omega
theorem zq737 (i j : Nat) (h : i + j < 9223372036854775808) : convI .i64 (aop .shr .u64 (convI .u64 ((i : Int) + (j : Int))) 1) = (((i + j) / 2 : Nat) : Int) := by
 unfold convI
 rw [zq1823 (by omega) (by omega)]
 have e1 : aop .shr .u64 ((i : Int) + (j : Int)) 1 = (((i + j) / 2 : Nat) : Int) := by
  simp only [aop,IntKind.bits]
  rw [show ((2 : Int) ^ (min ((1 : Int).toNat) 64)) = 2 from rfl,Int.fdiv_eq_ediv_of_nonneg _ (by omega)]
  omega
 rw [e1]
 exact wrap_i64 (by omega) (by omega)
abbrev DR := List Ad × List Ls × (Bool × Int × Int × Int × Unit) × (ByteArray × Unit) × List Ls × (Ad × Unit) × List Ls × (Bool × Int × Int × Int × Unit) × (Ad × Unit) × (Ls × Unit) × (Ls × Unit) × Unit
theorem zq359 {kp : List Ad} {l b g : List Ls} (q q' : Bool × Int × Int × Int × Unit) (who : ByteArray) (ga a0 : Ad) (x x2 : Ls) (hx : x2.ad.In) (hb : lsIn b) (hs : ascL b = true) (hlen : b.length ≤ 1048576) (n : Int) :
  ∀ (N i j : Nat),j - i < N → i ≤ posF x2.ad b → posF x2.ad b ≤ j → j ≤ b.length →
   loopN zq961 N (((),(),(),(n,()),((i : Int),()),((j : Int),()),()),((kp,l,q,(who,()),g,(ga,()),b,q',(a0,()),(x,()),(x2,()),()) : DR)) =
    some (((),(),(),(n,()),(((posF x2.ad b : Nat) : Int),()),()),(kp,l,q,(who,()),g,(ga,()),b,q',(a0,()),(x,()),(x2,()),()))
 | 0,_,_,h,_,_,_ => by omega
 | N + 1,i,j,hN,h1,h2,h3 => by
  rw [zq1083]
  simp only [zq961]
  obtain ⟨q1,q2,q3,q4,_⟩ := q
  obtain ⟨r1,r2,r3,r4,_⟩ := q'
  by_cases hij : i < j
  ·have hh : (i + j) / 2 < b.length := by omega
   obtain ⟨e,he⟩ : ∃ e,b[(i + j) / 2]? = some e := ⟨_,zc0 hh⟩
   have hp := zq1302 hx hb hs he
   rw [decide_eq_true (show (i : Int) < (j : Int) by omega),zq358,zq1463 (zq747 (by omega) (by omega))]
   simp only [zq737 i j (by omega)]
   rw [zq1463 (zq753 (by omega) (by unfold lenL; omega)),zq709 he,zq332,zq954,zq260,zq332,zq332]
   by_cases ho : ordA e.ad x2.ad < 0
   ·have := hp.1 ho
    simp only [ho,decide_true,zq358]
    rw [show (((i + j) / 2 : Nat) : Int) + 1 = (((i + j) / 2 + 1 : Nat) : Int) by omega,zq1463 (zq747 (by omega) (by omega))]
    exact zq359 _ _ who ga a0 x x2 hx hb hs hlen n N ((i + j) / 2 + 1) j (by omega) (by omega) h2 h3
   ·have : ¬ (i + j) / 2 < posF x2.ad b := fun h => ho (hp.2 h)
    simp only [ho,decide_false,zq356]
    exact zq359 _ _ who ga a0 x x2 hx hb hs hlen n N i ((i + j) / 2) (by omega) h1 (by omega) (by omega)
  ·have : posF x2.ad b = i := by omega
   rw [decide_eq_false (show ¬ (i : Int) < (j : Int) by omega),zq356,this]
theorem zq360 : zq960 = zq961 := rfl
abbrev DW := List Ad × List Ls × (Bool × Int × Int × Int × Unit) × (ByteArray × Unit) × List Ls × (Ad × Unit) × List Ls × (Bool × Int × Int × Int × Unit) × Unit
def rwOut (d : DW) : Option Nat → (((Int × Unit) × Unit) × DW) ⊕ ((Unit) × DW)
 | some k => Sum.inl ((((k : Int),()),()),d)
 | none => Sum.inr ((),d)
theorem zq1512 (p : Pf) (kp : List Ad) (l : List Ls) {b : List Ls} (hlen : b.length ≤ 1048576) (who : ByteArray) :
  loopN zq967 FUEL (((),(),(lenL b,()),(0,()),()),(kp,l,(p.ad.v6,p.ad.hi,p.ad.lo,p.bits,()),(who,()),([] : List Ls),((⟨false,0,0⟩ : Ad),()),b,(p.ad.v6,p.ad.hi,p.ad.lo,p.bits,()),())) =
   some (rwOut (kp,l,(p.ad.v6,p.ad.hi,p.ad.lo,p.bits,()),(who,()),([] : List Ls),((⟨false,0,0⟩ : Ad),()),b,(p.ad.v6,p.ad.hi,p.ad.lo,p.bits,()),()) (zq657 (whoP who) b)) := by
 have := zq1087 (step := zq967) (fun i => (((),(),(lenL b,()),((i : Int),()),()),((kp,l,(p.ad.v6,p.ad.hi,p.ad.lo,p.bits,()),(who,()),([] : List Ls),((⟨false,0,0⟩ : Ad),()),b,(p.ad.v6,p.ad.hi,p.ad.lo,p.bits,()),()) : DW))) b.length
  (fun i => some (rwOut (kp,l,(p.ad.v6,p.ad.hi,p.ad.lo,p.bits,()),(who,()),([] : List Ls),((⟨false,0,0⟩ : Ad),()),b,(p.ad.v6,p.ad.hi,p.ad.lo,p.bits,()),()) ((zq657 (whoP who) (b.drop i)).map (· + i)))) (fun rec i hi hr => ?_) (fun rec => ?_) FUEL 0 (Nat.zero_le _) (zq703 (by omega))
 ·rw [List.drop_zero,show (fun x => x + 0) = (id : Nat → Nat) from rfl,Option.map_id] at this
  exact this
 ·obtain ⟨e,he⟩ : ∃ e,b[i]? = some e := ⟨_,zc0 hi⟩
  simp only [zq967]
  rw [decide_eq_true (show (i : Int) < lenL b by unfold lenL; omega),zq358,zq1463 (zq753 (by omega) (by unfold lenL; omega)),zq709 he,zq332,zq949,zq332,zq659 he,zq1759]
  unfold whoP
  by_cases hc : e.who = who
  ·simp only [hc,decide_true,zq358,if_true]
   rfl
  ·simp only [hc,decide_false,zq356]
   rw [show ((i : Int) + 1) = ((i + 1 : Nat) : Int) by omega,zq1463 (zq747 (by omega) (by omega)),hr]
   rfl
 ·simp only [zq967]
  rw [decide_eq_false (show ¬ (b.length : Int) < lenL b by unfold lenL; omega),zq356,zc18 (zc47 _)]
  rfl
def insAt (b : List Ls) (x : Ls) : List Ls := b.take (posF x.ad b) ++ x :: b.drop (posF x.ad b)
def zq799 (b : List Ls) (k : Nat) (u : Int) : List Ls × Ad × Bool × Unit := match b[k]? with | some e => (b.set k ⟨e.ad,e.who,u⟩,e.ad,true,()) | none => ([],⟨false,0,0⟩,false,())
def zq1371 (b : List Ls) (who : ByteArray) (u : Int) : Option Ad → List Ls × Ad × Bool × Unit
 | some a => (insAt b ⟨a,who,u⟩,a,true,())
 | none => ([],⟨false,0,0⟩,false,())
def rawOf (p : Pf) (kp : List Ad) (b : List Ls) (who : ByteArray) (u : Int) : List Ls × Ad × Bool × Unit :=
 match zq657 (whoP who) b with
 | some k => zq799 b k u
 | none => zq1371 b who u (zq700 p kp b)
theorem zq239 {p : Pf} (n4 : p.ad.num + 2 ^ zq699 p ≤ 2 ^ wid p.ad.v6) {i : Nat} (h : i < 2 ^ zq699 p) : (addrI p i).In ∧ chkA (addrI p i) = 0 := ⟨zq1169 (by omega),zq1168 (by omega)⟩
theorem zq701 {p : Pf} {kp : List Ad} {b : List Ls} {a : Ad} (h : zq700 p kp b = some a) : (∃ i,i < 2 ^ zq699 p ∧ a = addrI p i) ∧ zq1774 kp b a = false := by
 unfold zq700 at h
 have h1 := List.mem_of_find?_eq_some h
 have h2 := List.find?_some h
 obtain ⟨i,hi,rfl⟩ := List.mem_map.1 h1
 exact ⟨⟨i,List.mem_range.1 hi,rfl⟩,by simpa using h2⟩
theorem zq958 {p : Pf} (hp : p.In) {kp : List Ad} {l : List Ls} (h : lsIn l) {now ttl : Int} (hc : zq403 p kp = 0) (ha : allC l now = 0) (hu : -9223372036854775808 ≤ now + ttl) (hu' : now + ttl < 9223372036854775808) (who : ByteArray) :
  zq973 p kp l who now ttl = some (rawOf p kp (live l now) who (now + ttl)) := by
 obtain ⟨a1,a2,a3,a4⟩ := zq275 ha
 obtain ⟨c1,c2,c3⟩ := zq405 hc
 have hll := zq1003 l now
 unfold zq973
 rw [zq924 (by omega) now,zq332]
 have hbs := zq1001 h a3 now
 have hbi := zq1002 h now
 generalize live l now = b at hll hbs hbi ⊢
 obtain ⟨n1,n2,n3,n4⟩ := zq1129 hp c1 c2
 rw [zq1512 p kp l (show b.length ≤ 1048576 by omega) who,zq332]
 unfold rawOf
 have hin : ∀ a,zq700 p kp b = some a → a.In := fun a hf => by
  obtain ⟨⟨i,hi,rfl⟩,_⟩ := zq701 hf
  exact (zq239 n4 hi).1
 have hf := zq666 hp c1 c2 (kp := kp) (by omega) (b := b) (by omega)
 have hfu : b.length - 0 < FUEL := by have : FUEL = 18446744073709551616 := rfl; omega
 have hroom : ∀ a : Ad,(decide ((0 : Int) ≤ ((posF a b : Nat) : Int)) && decide (((posF a b : Nat) : Int) ≤ lenL b) && room (lenL b) 1) = true := fun a => by
  have := zq1299 a b
  rw [decide_eq_true (show (0 : Int) ≤ ((posF a b : Nat) : Int) by omega),decide_eq_true (show ((posF a b : Nat) : Int) ≤ lenL b by unfold lenL; omega),zq1488 (zq989 _) (by omega) (by unfold lenL; omega)]
  rfl
 have hpick : ∀ (a : Ad) (x : Ls),x.ad = a → (br (decide (((posF a b : Nat) : Int) < lenL b)) (req (zq751 ((posF a b : Nat) : Int) (lenL b)) ((geti b ((posF a b : Nat) : Int)).bind fun p6 => (zq954 p6 x).bind fun y7 => some (((posF a b : Nat) : Int),decide (y7.1 = 0),()))) (some (((posF a b : Nat) : Int),false,()))) =
   some (((posF a b : Nat) : Int),(br (decide (((posF a b : Nat) : Int) < lenL b)) ((geti b ((posF a b : Nat) : Int)).bind fun p6 => (zq954 p6 x).bind fun y7 => some (decide (y7.1 = 0))) (some false)).getD false,()) := fun a x hx => by
  by_cases hlt : posF a b < b.length
  ·obtain ⟨e,he⟩ : ∃ e,b[posF a b]? = some e := ⟨_,zc0 hlt⟩
   rw [decide_eq_true (show ((posF a b : Nat) : Int) < lenL b by unfold lenL; omega),zq358,zq1463 (zq753 (by omega) (by unfold lenL; omega)),zq709 he,zq332,zq954,zq260,zq332,zq332,zq358,zq332,zq954,zq260,zq332,zq332]
   rfl
  ·rw [decide_eq_false (show ¬ ((posF a b : Nat) : Int) < lenL b by unfold lenL; omega),zq356,zq356]
   rfl
 cases hfw : zq657 (whoP who) b with
 | some k =>
  have hk := zq660 hfw
  obtain ⟨e,he⟩ : ∃ e,b[k]? = some e := ⟨_,zc0 hk⟩
  have r1 : zq751 (k : Int) (lenL b) = true := zq753 (by omega) (by unfold lenL; omega)
  have r2 : zq751 (k : Int) (lenL (seti b (k : Int) (⟨e.ad,e.who,now + ttl⟩ : Ls))) = true := zq753 (by omega) (by unfold lenL seti; simp only [List.length_set]; omega)
  have hg : geti (seti b (k : Int) (⟨e.ad,e.who,now + ttl⟩ : Ls)) (k : Int) = some ⟨e.ad,e.who,now + ttl⟩ := by
   rw [zq710]
   simp [seti,hk]
  simp only [rwOut,sumC]
  rw [decide_eq_true (show (k : Int) ≥ 0 by omega),zq358,zq1463 (zq747 hu hu')]
  simp only [r1,zq1466,zq709 he,zq332,r2,hg]
  unfold zq799
  rw [he]
  simp [seti]
 | none =>
  simp only [rwOut,sumC]
  show (zq174 p kp b).bind _ = _
  rw [hf,zq332]
  cases hfo : zq700 p kp b with
  | none => rfl
  | some a =>
   simp only [zq698,zc10,zq356]
   rw [zq1463 (zq747 hu hu')]
   have hl := zq359 (kp := kp) (l := l) (g := ([] : List Ls)) (p.ad.v6,p.ad.hi,p.ad.lo,p.bits,()) (p.ad.v6,p.ad.hi,p.ad.lo,p.bits,()) who ⟨false,0,0⟩ a ⟨a,who,now + ttl⟩ ⟨a,who,now + ttl⟩ (hin a hfo) hbi hbs (by omega) (lenL b) FUEL 0 b.length hfu (Nat.zero_le _) (zq1299 _ _) (zc47 _)
   rw [show ((0 : Nat) : Int) = 0 from rfl,show ((b.length : Nat) : Int) = lenL b from rfl] at hl
   rw [zq360,hl,zq332,hpick a ⟨a,who,now + ttl⟩ rfl,zq332]
   simp only [hroom a,zq1466,zq553,zq354]
   unfold zq1371 insAt insL
   simp
def zq727 (p : Pf) (kp : List Ad) (l : List Ls) (who : ByteArray) (now ttl : Int) : List Ls × Ad × Int × Unit :=
 if chkOf p kp l now ≠ 0 then ([],⟨false,0,0⟩,chkOf p kp l now,()) else if whoOk who = false then ([],⟨false,0,0⟩,1,()) else if betw ttl 1 500 = false then ([],⟨false,0,0⟩,3,())
 else if (rawOf p kp (live l now) who (now + ttl)).2.2.1 = false then ([],⟨false,0,0⟩,8,()) else ((rawOf p kp (live l now) who (now + ttl)).1,(rawOf p kp (live l now) who (now + ttl)).2.1,0,())
theorem zq399 {p : Pf} {kp : List Ad} {l : List Ls} {now : Int} (h : chkOf p kp l now = 0) : zq403 p kp = 0 ∧ allC l now = 0 ∧ ofF p [] l = 0 := by
 unfold chkOf at h
 split at h
 ·rename_i h1; exact absurd h h1
 split at h
 ·rename_i h1; exact absurd h h1
 ·rename_i h1 h2
  exact ⟨zc49.1 h1,zc49.1 h2,h⟩
end Go.Ma
namespace Go.Ma
open Go
end Go.Ma
namespace Go.Ma
open Go
theorem zq742 {p : Pf} (hp : p.In) (cp : chkP p = 0) (hn : ((wid p.ad.v6 : Nat) : Int) - p.bits ≤ 4) {i : Nat} : holds p (addrI p i) = decide (i < 2 ^ zq699 p) := by
 obtain ⟨n1,n2,n3,n4⟩ := zq1129 hp cp hn
 have hpp := Nat.two_pow_pos (zq699 p)
 unfold holds addrI
 rw [show (ofNum p.ad.v6 (p.ad.num + i)).v6 = p.ad.v6 from rfl,beq_self_eq_true,Bool.true_and]
 refine decide_eq_decide.2 ?_
 unfold cutA
 rw [zq1161,show (ofNum p.ad.v6 (p.ad.num + i)).v6 = p.ad.v6 from rfl]
 show ofNum p.ad.v6 (cutN (p.ad.num + i) (zq699 p)) = p.ad ↔ _
 have hq : cutN (p.ad.num + i) (zq699 p) = p.ad.num ↔ i < 2 ^ zq699 p := by
  unfold cutN
  obtain ⟨m,hm⟩ := Nat.dvd_of_mod_eq_zero n3
  rw [hm,Nat.mul_add_div hpp]
  constructor
  ·intro h
   have h1 : i / 2 ^ zq699 p = 0 := by
    rw [Nat.mul_comm (2 ^ zq699 p) m] at h
    have := Nat.eq_of_mul_eq_mul_right hpp h
    omega
   rcases Nat.div_eq_zero_iff.1 h1 with h2 | h2
   ·omega
   ·exact h2
  ·intro h
   rw [Nat.div_eq_of_lt h,Nat.add_zero,Nat.mul_comm]
 rw [← hq]
 constructor
 ·intro h
  have := congrArg Ad.num h
  rwa [zq1161] at this
 ·intro h
  rw [h,zq1171 _ hp.1.wf]
end Go.Ma
namespace Go.Ma
open Go
theorem zq1006 {l : List Ls} {now : Int} {x : Ls} (h : x ∈ live l now) : x ∈ l ∧ now ≤ x.upto := ⟨(List.mem_filter.1 h).1,by have := (List.mem_filter.1 h).2; simpa [liveP] using this⟩
theorem zq1095 : lsIn [] := fun x hx => by cases hx
theorem zq395 : ∀ {l : List Ls},(∀ x ∈ l,chkLs x = 0) → zq393 l = 0
 | [],_ => rfl
 | y :: r,h => by
  unfold zq393
  rw [if_neg (fun h' => h' (h y (by simp))),zq395 fun x hx => h x (by simp [hx])]
end Go.Ma
namespace Go.Ma
open Go
end Go.Ma
namespace Go.Ma
open Go
end Go.Ma
namespace Go.Ma
open Go
theorem zq1342 {p q : Pf} (hp : chkP p = 0) (hq : chkP q = 0) : zq1344 p q = some (ordP p q,()) := by
 have h1 := zq401 hp
 have h2 := zq401 hq
 have h3 := zq1815 p.ad.v6
 have h4 := zq1815 q.ad.v6
 unfold zq1344 ordP
 rw [zq260,zq332]
 by_cases h : ordA p.ad q.ad = 0
 ·rw [decide_eq_true (show (ordA p.ad q.ad,()).1 = 0 from h),zc10,zq356,if_neg (fun h' => h' h),zq1463 (zq747 (by omega) (by omega))]
 ·rw [decide_eq_false (show ¬ (ordA p.ad q.ad,()).1 = 0 from h),zc19,zq358,if_pos h]
theorem zq1348 {p q : Pf} (cp : chkP p = 0) (hq : q.In) : zq1350 p q = some (over p q,()) := by
 obtain ⟨h1,h2⟩ := zq401 cp
 unfold zq1350 over
 rw [zq1324 h1 h2 hq.1,zq332,br_sb,zq332]
 cases decide (p.bits ≤ q.bits) <;> rfl
end Go.Ma
namespace Go.Ma
open Go
end Go.Ma
namespace Go.Ma
open Go
end Go.Ma
namespace Go.Ma
open Go
end Go.Ma
namespace Go.Ma
open Go
end Go.Ma
namespace Go.Ma
open Go
theorem zq743 {p : Pf} {a : Ad} : holds p a = true ↔ p.ad.v6 = a.v6 ∧ cutA a p.bits = p.ad := by simp [holds]
theorem zq1254 {p q : Pf} : over p q = true ↔ p.bits ≤ q.bits ∧ holds p q.ad = true := by simp [over]
theorem zq744 {p : Pf} (cp : chkP p = 0) : holds p p.ad = true := by
 rw [zq743]
 exact ⟨rfl,zq402 cp⟩
end Go.Ma
namespace Go.Ma
open Go
def free (p : Pf) : Nat := wid p.ad.v6 - p.bits.toNat
theorem zq702 {p : Pf} (hp : p.In) (cp : chkP p = 0) : free p ≤ wid p.ad.v6 ∧ p.ad.num % 2 ^ free p = 0 ∧ p.ad.num + 2 ^ free p ≤ 2 ^ wid p.ad.v6 := by
 have h3 : p.ad.num % 2 ^ free p = 0 := (zq503 _ _).1 ((zq501 hp.1.wf p.bits).1 (zq402 cp))
 have h4 := zq1487 p.ad ⟨hp.1.wf,zq400 cp⟩
 have hk : free p ≤ wid p.ad.v6 := by unfold free; omega
 refine ⟨hk,h3,?_⟩
 have h5 : 2 ^ wid p.ad.v6 = 2 ^ free p * 2 ^ (wid p.ad.v6 - free p) := by rw [← Nat.pow_add]; congr 1; omega
 obtain ⟨m,hm⟩ := Nat.dvd_of_mod_eq_zero h3
 rw [hm,h5] at h4 ⊢
 have := Nat.lt_of_mul_lt_mul_left h4
 calc 2 ^ free p * m + 2 ^ free p = 2 ^ free p * (m + 1) := by rw [Nat.mul_add,Nat.mul_one]
  _ ≤ _ := Nat.mul_le_mul_left _ this
theorem zq745 {p : Pf} {a : Ad} (hp : p.In) (cp : chkP p = 0) (ha : a.In) : holds p a = true ↔ p.ad.v6 = a.v6 ∧ p.ad.num ≤ a.num ∧ a.num < p.ad.num + 2 ^ free p := by
 obtain ⟨f1,f2,f3⟩ := zq702 hp cp
 have hpp := Nat.two_pow_pos (free p)
 rw [zq743]
 constructor
 ·rintro ⟨h1,h2⟩
  have h3 : p.ad.num = cutN a.num (free p) := by
   have h4 : (cutA a p.bits).num = cutN a.num (wid a.v6 - p.bits.toNat) := by unfold cutA; rw [zq1161]
   rw [h2] at h4
   rw [h4]
   unfold free
   rw [h1]
  unfold cutN at h3
  have := Nat.div_add_mod a.num (2 ^ free p)
  have h5 := Nat.mod_lt a.num hpp
  rw [Nat.mul_comm] at this
  refine ⟨h1,by omega,by omega⟩
 ·rintro ⟨h1,h2,h3⟩
  refine ⟨h1,?_⟩
  obtain ⟨m,hm⟩ := Nat.dvd_of_mod_eq_zero f2
  have h4 : a.num / 2 ^ free p = m := by
   apply Nat.div_eq_of_lt_le
   ·rw [Nat.mul_comm]; omega
   ·rw [Nat.add_mul,Nat.one_mul,Nat.mul_comm]; omega
  unfold cutA cutN
  rw [show wid a.v6 - p.bits.toNat = free p by unfold free; rw [h1],h4,← h1,Nat.mul_comm,← hm,zq1171 p.ad hp.1.wf]
theorem zq1256 {p : Pf} (cp : chkP p = 0) : over p p = true := zq1254.2 ⟨Int.le_refl _,zq744 cp⟩
theorem zq298 {p q : Pf} (hp : p.In) (hq : q.In) (cp : chkP p = 0) (cq : chkP q = 0) (hv : p.ad.v6 = q.ad.v6) (h1 : q.ad.num ≤ p.ad.num + (2 ^ free p - 1)) (h2 : p.ad.num ≤ q.ad.num + (2 ^ free q - 1)) (hb : p.bits ≤ q.bits) : over p q = true := by
 rw [zq1254]
 refine ⟨hb,(zq745 hp cp hq.1).2 ⟨hv,?_,by have := Nat.two_pow_pos (free p); omega⟩⟩
 obtain ⟨_,f2,_⟩ := zq702 hp cp
 obtain ⟨_,g2,_⟩ := zq702 hq cq
 have hle : free q ≤ free p := by unfold free; rw [hv]; omega
 have e : 2 ^ free p = 2 ^ free q * 2 ^ (free p - free q) := by rw [← Nat.pow_add]; congr 1; omega
 obtain ⟨m,hm⟩ := Nat.dvd_of_mod_eq_zero f2
 obtain ⟨k,hk⟩ := Nat.dvd_of_mod_eq_zero g2
 have hpos := Nat.two_pow_pos (free q)
 have hm' : p.ad.num = 2 ^ free q * (2 ^ (free p - free q) * m) := by rw [hm,e,Nat.mul_assoc]
 rw [hm',hk] at h2 ⊢
 apply Nat.mul_le_mul_left
 apply Nat.le_of_lt_succ
 apply Nat.lt_of_mul_lt_mul_left (a := 2 ^ free q)
 rw [Nat.mul_succ]
 omega
end Go.Ma
namespace Go.Ma
open Go
theorem zq1167 (p : Pf) : ∀ (m bf : List Ls),ofF p bf m = 0 ↔ (∀ x ∈ m,holds p x.ad = true) ∧ (∀ y ∈ bf,∀ x ∈ m,y.who ≠ x.who) ∧ m.Pairwise fun x y => x.who ≠ y.who
 | [],bf => by simp [ofF]
 | x :: r,bf => by
  unfold ofF
  by_cases h1 : holds p x.ad = true
  ·rw [if_neg (by simp [h1])]
   by_cases h2 : bf.any (whoP x.who) = true
   ·rw [if_pos h2]
    constructor
    ·intro h; exact absurd h (by decide)
    ·rintro ⟨_,h3,_⟩
     obtain ⟨y,hy,hq⟩ := List.any_eq_true.1 h2
     exact absurd (by simpa [whoP] using hq) (h3 y hy x (by simp))
   ·rw [if_neg h2,zq1167 p r (bf ++ [x])]
    have h2' : ∀ y ∈ bf,y.who ≠ x.who := fun y hy he => h2 (List.any_eq_true.2 ⟨y,hy,by simp [whoP,he]⟩)
    constructor
    ·rintro ⟨a1,a2,a3⟩
     refine ⟨fun z hz => ?_,fun y hy z hz => ?_,zc45.2 ⟨fun z hz => a2 x (by simp) z hz,a3⟩⟩
     ·rcases zc28.1 hz with rfl | hz
      ·exact h1
      ·exact a1 z hz
     ·rcases zc28.1 hz with rfl | hz
      ·exact h2' y hy
      ·exact a2 y (by simp [hy]) z hz
    ·rintro ⟨a1,a2,a3⟩
     obtain ⟨b1,b2⟩ := zc45.1 a3
     refine ⟨fun z hz => a1 z (by simp [hz]),fun y hy z hz => ?_,b2⟩
     rcases zc36.1 hy with hy | hy
     ·exact a2 y hy z (by simp [hz])
     ·have : y = x := by simpa using hy
      subst this
      exact b1 z hz
  ·rw [if_pos (by simpa using h1)]
   constructor
   ·intro h; exact absurd h (by decide)
   ·rintro ⟨a1,_⟩; exact absurd (a1 x (by simp)) h1
structure Good (p : Pf) (m : List Ls) : Prop where
 ins : lsIn m
 chk : ∀ x ∈ m,chkLs x = 0
 held : ∀ x ∈ m,holds p x.ad = true
 asc : m.Pairwise fun x y => rank x.ad < rank y.ad
 whos : m.Pairwise fun x y => x.who ≠ y.who
theorem zq726 {p : Pf} {kp : List Ad} {l : List Ls} {now : Int} (h : lsIn l) (hc : chkOf p kp l now = 0) : Good p l := by
 obtain ⟨c1,c2,c3⟩ := zq399 hc
 obtain ⟨a1,a2,a3,a4⟩ := zq275 c2
 obtain ⟨o1,_,o3⟩ := (zq1167 p l []).1 c3
 exact ⟨h,a2,o1,(zq308 h).1 a3,o3⟩
theorem Good.live {p : Pf} {l : List Ls} (g : Good p l) (now : Int) : Good p (live l now) :=
 ⟨fun x hx => g.ins x (zq1006 hx).1,fun x hx => g.chk x (zq1006 hx).1,fun x hx => g.held x (zq1006 hx).1,g.asc.filter _,g.whos.filter _⟩
theorem zq306 {lo : Nat} : ∀ {l : List Nat} {hi : Nat},l.Pairwise (· < ·) → (∀ x ∈ l,lo ≤ x ∧ x < hi) → l.length ≤ hi - lo
 | [],_,_,_ => Nat.zero_le _
 | x :: r,hi,h,hb => by
  obtain ⟨h1,h2⟩ := zc45.1 h
  have hx := hb x (by simp)
  have := zq306 (lo := x + 1) (l := r) (hi := hi) h2 fun y hy => ⟨h1 y hy,(hb y (by simp [hy])).2⟩
  simp only [zc21]
  omega
theorem Good.len {p : Pf} {l : List Ls} (g : Good p l) (hp : p.In) (cp : chkP p = 0) (hn : ((wid p.ad.v6 : Nat) : Int) - p.bits ≤ 4) : l.length ≤ 16 := by
 obtain ⟨n1,n2,n3,n4⟩ := zq1129 hp cp hn
 have h := zq306 (lo := rank p.ad) (l := l.map fun x => rank x.ad) (hi := rank p.ad + 16) (by rw [List.pairwise_map]; exact g.asc) fun y hy => by
  obtain ⟨x,hx,rfl⟩ := List.mem_map.1 hy
  obtain ⟨s1,s2,s3⟩ := (zq745 hp cp (g.ins x hx).1).1 (g.held x hx)
  have e : free p = zq699 p := rfl
  rw [e] at s3
  unfold rank
  rw [s1]
  omega
 rw [List.length_map] at h
 omega
theorem Good.ok {p : Pf} {l : List Ls} (g : Good p l) {kp : List Ad} (hp : p.In) (hc : zq403 p kp = 0) {now : Int} (ht : betw now 0 9999 = true) : chkOf p kp l now = 0 := by
 obtain ⟨cp,hn,_⟩ := zq405 hc
 have hlen := g.len hp cp hn
 have ha : allC l now = 0 := by
  unfold allC
  rw [if_neg (by omega),zq395 g.chk,if_neg (fun h => h rfl),(zq308 g.ins).2 g.asc,if_neg (by simp),ht,if_neg (by simp)]
 unfold chkOf
 rw [hc,if_neg (fun h => h rfl),ha,if_neg (fun h => h rfl)]
 exact (zq1167 p l []).2 ⟨g.held,fun y hy => absurd hy (by simp),g.whos⟩
theorem zq1118 {b : List Ls} {k : Nat} {v x : Ls} (h : x ∈ b.set k v) : x ∈ b ∨ x = v := (List.mem_or_eq_of_mem_set h)
theorem zq1103 {α : Type} (f : Ls → α) {b : List Ls} {k : Nat} {e v : Ls} (he : b[k]? = some e) (h : f v = f e) : (b.set k v).map f = b.map f := by
 rw [List.map_set,h]
 have hk := (zc1.1 he).1
 have : f e = (b.map f)[k]'(by simpa using hk) := by
  rw [List.getElem_map,(zc1.1 he).2]
 rw [this,List.set_getElem_self]
theorem zq397 {a : Ad} {who : ByteArray} {u : Int} (ca : chkA a = 0) (hw : whoOk who = true) (hu : betw u 0 10499 = true) : chkLs ⟨a,who,u⟩ = 0 := by
 unfold chkLs
 simp only [ca,hw,hu]
 simp
theorem Good.set {p : Pf} {b : List Ls} (g : Good p b) {k : Nat} {e : Ls} (he : b[k]? = some e) {u : Int} (hu : betw u 0 10499 = true) : Good p (b.set k ⟨e.ad,e.who,u⟩) := by
 have hm := zc5 he
 obtain ⟨u1,u2⟩ := zq329.1 hu
 obtain ⟨e1,e2,e3⟩ := zq396 (g.chk e hm)
 obtain ⟨i1,i2,i3⟩ := g.ins e hm
 refine ⟨fun x hx => ?_,fun x hx => ?_,fun x hx => ?_,?_,?_⟩
 ·rcases zq1118 hx with hx | rfl
  ·exact g.ins x hx
  ·exact ⟨i1,i2,⟨by show (-9223372036854775808 : Int) ≤ u; omega,by show u < 9223372036854775808; omega⟩⟩
 ·rcases zq1118 hx with hx | rfl
  ·exact g.chk x hx
  ·exact zq397 e1 e2 hu
 ·rcases zq1118 hx with hx | rfl
  ·exact g.held x hx
  ·exact g.held e hm
 ·have := g.asc
  rw [← List.pairwise_map (f := fun x : Ls => rank x.ad) (R := (· < ·))] at this ⊢
  rwa [zq1103 (fun x : Ls => rank x.ad) (v := ⟨e.ad,e.who,u⟩) he rfl]
 ·have := g.whos
  rw [← List.pairwise_map (f := fun x : Ls => x.who) (R := (· ≠ ·))] at this ⊢
  rwa [zq1103 (fun x : Ls => x.who) (v := ⟨e.ad,e.who,u⟩) he rfl]
theorem zq1115 {b : List Ls} {x y : Ls} : y ∈ insAt b x ↔ y ∈ b ∨ y = x := by
 unfold insAt
 have h := List.take_append_drop (posF x.ad b) b
 rw [zc36,zc28]
 constructor
 ·rintro (h1 | rfl | h1)
  ·exact .inl (List.mem_of_mem_take h1)
  ·exact .inr rfl
  ·exact .inl (List.mem_of_mem_drop h1)
 ·rintro (h1 | rfl)
  ·rw [← h] at h1
   rcases zc36.1 h1 with h2 | h2
   ·exact .inl h2
   ·exact .inr (.inr h2)
  ·exact .inr (.inl rfl)
theorem Good.put {p : Pf} {b : List Ls} (g : Good p b) {a : Ad} (ha : a.In) (ca : chkA a = 0) (hh : holds p a = true) (hfree : ∀ x ∈ b,x.ad ≠ a) {who : ByteArray} (hs : strIn who) (hw : whoOk who = true) (hno : ∀ x ∈ b,x.who ≠ who) {u : Int} (hu : betw u 0 10499 = true) :
  Good p (insAt b ⟨a,who,u⟩) := by
 obtain ⟨u1,u2⟩ := zq329.1 hu
 have hsplit := List.take_append_drop (posF a b) b
 have hasc := g.asc
 have hwhos := g.whos
 rw [← hsplit,List.pairwise_append] at hasc hwhos
 have hpos := fun (h : Nat) (x : Ls) (hx : b[h]? = some x) => zq1302 ha g.ins ((zq308 g.ins).2 g.asc) hx
 have hlo : ∀ y ∈ b.take (posF a b),rank y.ad < rank a := fun y hy => by
  obtain ⟨i,hi⟩ := List.getElem?_of_mem hy
  have hi2 : i < posF a b := by
   have := (zc1.1 hi).1
   simp at this
   omega
  rw [List.getElem?_take_of_lt hi2] at hi
  exact (zq1246 (g.ins y (zc5 hi)).1 ha).1.1 ((hpos i y hi).2 hi2)
 have hhi : ∀ y ∈ b.drop (posF a b),rank a < rank y.ad := fun y hy => by
  obtain ⟨i,hi⟩ := List.getElem?_of_mem hy
  rw [List.getElem?_drop] at hi
  have hm := zc5 hi
  have h1 : ¬ rank y.ad < rank a := fun h => by
   have := (hpos _ y hi).1 ((zq1246 (g.ins y hm).1 ha).1.2 h)
   omega
  have h2 : rank y.ad ≠ rank a := fun h => hfree y hm (zq1413 (g.ins y hm).1 ha h)
  omega
 refine ⟨fun x hx => ?_,fun x hx => ?_,fun x hx => ?_,?_,?_⟩
 ·rcases zq1115.1 hx with hx | rfl
  ·exact g.ins x hx
  ·exact ⟨ha,hs,⟨by show (-9223372036854775808 : Int) ≤ u; omega,by show u < 9223372036854775808; omega⟩⟩
 ·rcases zq1115.1 hx with hx | rfl
  ·exact g.chk x hx
  ·exact zq397 ca hw hu
 ·rcases zq1115.1 hx with hx | rfl
  ·exact g.held x hx
  ·exact hh
 ·unfold insAt
  rw [List.pairwise_append,zc45]
  refine ⟨hasc.1,⟨hhi,hasc.2.1⟩,fun y hy z hz => ?_⟩
  rcases zc28.1 hz with rfl | hz
  ·exact hlo y hy
  ·exact hasc.2.2 y hy z hz
 ·unfold insAt
  rw [List.pairwise_append,zc45]
  refine ⟨hwhos.1,⟨fun z hz he => hno z (List.mem_of_mem_drop hz) he.symm,hwhos.2.1⟩,fun y hy z hz => ?_⟩
  rcases zc28.1 hz with rfl | hz
  ·exact hno y (List.mem_of_mem_take hy)
  ·exact hwhos.2.2 y hy z hz
theorem zq1814 {m : List Ls} (h : m.Pairwise fun x y => x.who ≠ y.who) {x : Ls} (hx : x ∈ m) : ∃ k,zq657 (whoP x.who) m = some k ∧ m[k]? = some x := by
 cases hf : zq657 (whoP x.who) m with
 | none =>
  have := zq661 hf x hx
  simp [whoP] at this
 | some k =>
  obtain ⟨y,hy,hq,_⟩ := zq662 hf
  refine ⟨k,rfl,?_⟩
  have hyx : y.who = x.who := by simpa [whoP] using hq
  obtain ⟨i,hi⟩ := List.getElem?_of_mem hx
  obtain ⟨k1,k2⟩ := zc1.1 hy
  obtain ⟨i1,i2⟩ := zc1.1 hi
  have hp := List.pairwise_iff_getElem.1 h
  rcases Nat.lt_trichotomy k i with h1 | h1 | h1
  ·exact absurd (by rw [k2,i2]; exact hyx) (hp k i k1 i1 h1)
  ·subst h1; exact hi
  ·exact absurd (by rw [k2,i2]; exact hyx.symm) (hp i k i1 k1 h1)
structure Given (p : Pf) (kp : List Ad) (l : List Ls) (who : ByteArray) (now u : Int) (m : List Ls) (a : Ad) : Prop where
 good : Good p m
 alive : ∀ x ∈ m,now ≤ x.upto
 mine : (⟨a,who,u⟩ : Ls) ∈ m
 others : ∀ x ∈ l,now ≤ x.upto → x.who ≠ who → x ∈ m
 fresh : (∀ x ∈ l,now ≤ x.upto → x.who ≠ who) → ∀ x ∈ kp,x ≠ a
theorem zq714 {p : Pf} (hp : p.In) {kp : List Ad} {l : List Ls} (hl : lsIn l) {who : ByteArray} (hw : strIn who) {now ttl : Int} {m : List Ls} {a : Ad} (h : zq727 p kp l who now ttl = (m,a,0,())) :
  chkOf p kp l now = 0 ∧ whoOk who = true ∧ Given p kp l who now (now + ttl) m a := by
 unfold zq727 at h
 split at h
 ·rename_i hc
  exact absurd (congrArg (fun y => y.2.2.1) h) hc
 rename_i hc
 have hc : chkOf p kp l now = 0 := zc49.1 hc
 split at h
 ·exact absurd (show (1 : Int) = 0 from congrArg (fun y => y.2.2.1) h) (by decide)
 rename_i hwo
 have hwo : whoOk who = true := by simpa using hwo
 split at h
 ·exact absurd (show (3 : Int) = 0 from congrArg (fun y => y.2.2.1) h) (by decide)
 rename_i ht
 have ht : betw ttl 1 500 = true := by simpa using ht
 split at h
 ·exact absurd (show (8 : Int) = 0 from congrArg (fun y => y.2.2.1) h) (by decide)
 rename_i hr
 obtain ⟨c1,c2,c3⟩ := zq399 hc
 obtain ⟨cp,hn,_⟩ := zq405 c1
 obtain ⟨t1,t2⟩ := zq329.1 ht
 obtain ⟨v1,v2⟩ := zq329.1 (zq275 c2).2.2.2
 have hu : betw (now + ttl) 0 10499 = true := zq329.2 ⟨by omega,by omega⟩
 have g := (zq726 hl hc).live now
 have hlm : ∀ x ∈ l,now ≤ x.upto → x ∈ live l now := fun x hx h => List.mem_filter.2 ⟨hx,by simp [liveP,h]⟩
 have hm : (rawOf p kp (live l now) who (now + ttl)).1 = m := congrArg (fun y => y.1) h
 have ha : (rawOf p kp (live l now) who (now + ttl)).2.1 = a := congrArg (fun y => y.2.1) h
 clear h
 refine ⟨hc,hwo,?_⟩
 unfold rawOf at hm ha hr
 cases hf : zq657 (whoP who) (live l now) with
 | some k =>
  rw [hf] at hm ha hr
  obtain ⟨e,he,hq,_⟩ := zq662 hf
  have hew : e.who = who := by simpa [whoP] using hq
  simp only [zq799,he] at hm ha
  subst hm ha
  have hk := (zc1.1 he).1
  refine ⟨g.set he hu,fun x hx => ?_,?_,fun x hx hx2 hx3 => ?_,fun hno => ?_⟩
  ·rcases zq1118 hx with hx | rfl
   ·exact (zq1006 hx).2
   ·show now ≤ now + ttl
    omega
  ·rw [← hew]
   exact zc5 (List.getElem?_set_self (by exact hk))
  ·obtain ⟨i,hi⟩ := List.getElem?_of_mem (hlm x hx hx2)
   have hik : k ≠ i := fun h => by
    subst h
    rw [he] at hi
    injection hi with hi
    exact hx3 (by rw [← hi,hew])
   exact zc5 ((List.getElem?_set_ne hik).trans hi)
  ·have hm := zq1006 (zc5 he)
   exact absurd hew (hno e hm.1 hm.2)
 | none =>
  rw [hf] at hm ha hr
  cases hfr : zq700 p kp (live l now) with
  | none =>
   rw [hfr] at hr
   exact absurd rfl hr
  | some b =>
   rw [hfr] at hm ha
   simp only [zq1371] at hm ha
   subst hm ha
   obtain ⟨⟨i,hi,hbi⟩,htk⟩ := zq701 hfr
   obtain ⟨n1,n2,n3,n4⟩ := zq1129 hp cp hn
   obtain ⟨b1,b2⟩ := zq239 n4 hi
   unfold zq1774 at htk
   simp only [Bool.or_eq_false_iff,List.any_eq_false,decide_eq_true_eq] at htk
   have hno : ∀ x ∈ live l now,x.who ≠ who := fun x hx he => by
    have := zq661 hf x hx
    simp [whoP,he] at this
   refine ⟨g.put (by rw [hbi]; exact b1) (by rw [hbi]; exact b2) (by rw [hbi,zq742 hp cp hn]; exact decide_eq_true hi) htk.2 hw hwo hno hu,fun x hx => ?_,zq1115.2 (.inr rfl),fun x hx hx2 hx3 => zq1115.2 (.inl (hlm x hx hx2)),fun _ x hx he => htk.1 x hx he.symm⟩
   rcases zq1115.1 hx with hx | rfl
   ·exact (zq1006 hx).2
   ·show now ≤ now + ttl
    omega
end Go.Ma
namespace Go.Ma
open Go
theorem zq582 (a b : En) : eqEn a b = decide (a = b) := by
 have e : (a = b) ↔ (a.num = b.num ∧ a.epoch = b.epoch ∧ a.op.kind = b.op.kind ∧ a.op.pf.ad.v6 = b.op.pf.ad.v6 ∧ a.op.pf.ad.hi = b.op.pf.ad.hi ∧ a.op.pf.ad.lo = b.op.pf.ad.lo ∧ a.op.pf.bits = b.op.pf.bits ∧
   a.op.ad.v6 = b.op.ad.v6 ∧ a.op.ad.hi = b.op.ad.hi ∧ a.op.ad.lo = b.op.ad.lo ∧ a.op.who = b.op.who ∧ a.op.of_ = b.op.of_ ∧ a.op.n = b.op.n) := by
  cases a with | mk n1 e1 o1 => cases b with | mk n2 e2 o2 =>
  cases o1 with | mk k1 p1 a1 w1 f1 m1 => cases o2 with | mk k2 p2 a2 w2 f2 m2 =>
  cases p1 with | mk pa1 pb1 => cases p2 with | mk pa2 pb2 =>
  cases pa1; cases pa2; cases a1; cases a2
  simp only [En.mk.injEq,Oq.mk.injEq,Pf.mk.injEq,Ad.mk.injEq,and_assoc]
 rw [Bool.eq_iff_iff,decide_eq_true_iff,e]
 unfold eqEn eqOq
 simp [beqB,acmp,zq1759]
theorem zq1744 (x a b : Int) : zq1746 x a b = some (betw x a b,()) := by
 unfold zq1746
 rw [br_ss,zq332,zq328]
def zq589 (o : Oq) : Bool :=
 bif (bif (bif (bif (bif !decide (o.kind = 1) then !(eqPf o.pf ⟨⟨false,0,0⟩,0⟩) else false) then true else (bif !decide (o.kind = 2) then !(eqAd o.ad ⟨false,0,0⟩) else false))
  then true else (bif !decide (o.kind = 3) then (bif !decide (o.kind = 4) then zq1758 .neq o.who ByteArray.empty else false) else false))
  then true else (bif !decide (o.kind = 3) then !decide (o.of_ = 0) else false))
  then true else (bif !decide (o.kind = 3) then (bif !decide (o.kind = 5) then !decide (o.n = 0) else false) else false)
def formO (o : Oq) : Int :=
 if betw o.kind 1 5 = false then 7 else if zq589 o = true then 1
 else if o.kind = 1 then (if chkP o.pf ≠ 0 then chkP o.pf else if ((wid o.pf.ad.v6 : Nat) : Int) - o.pf.bits ≤ 4 then 0 else 2)
 else if o.kind = 2 then chkA o.ad
 else if o.kind < 5 ∧ whoOk o.who = false then 1
 else if o.kind = 3 ∧ (betw o.of_ 0 2 = false ∨ betw o.n 1 500 = false) then 3
 else if o.kind = 5 ∧ betw o.n 0 9999 = false then 3 else 0
theorem zq1720 (o : Oq) : zq1722 o = some (zq589 o,()) := by
 unfold zq1722
 simp only [br_ss,zq332]
 rfl
theorem zq1659 {o : Oq} (h : o.In) : zq1661 o = some (formO o,()) := by
 obtain ⟨_,hp,ha,hw,_,_⟩ := h
 unfold zq1661 formO
 rw [zq1744,zq332]
 cases hk : betw o.kind 1 5
 ·rfl
 obtain ⟨hk1,hk2⟩ := zq329.1 hk
 simp only [zc10,zq356,Bool.true_eq_false,if_false]
 rw [zq1720,zq332]
 cases zq589 o
 rotate_left
 ·rfl
 simp only [zq356,zc16,if_false]
 by_cases k1 : o.kind = 1
 ·rw [decide_eq_true k1,zq358,if_pos k1,zq1312 hp,zq332]
  by_cases hc : chkP o.pf = 0
  ·simp only [hc,decide_true,zc10,zq356,ne_eq,not_true,if_false]
   rw [zq942 hc,zq332]
   by_cases hn : ((wid o.pf.ad.v6 : Nat) : Int) - o.pf.bits ≤ 4 <;> simp [hn,zq358,zq356]
  ·simp [hc,zq358]
 rw [decide_eq_false k1,zq356,if_neg k1]
 by_cases k2 : o.kind = 2
 ·rw [decide_eq_true k2,zq358,if_pos k2,zq249,zq332]
 rw [decide_eq_false k2,zq356,if_neg k2]
 have who : ∀ (X : Bool → Option (Int × Unit)),((zq982 o.who).bind fun y => X y.1) = X (whoOk o.who) := fun X => by rw [zq980 hw,zq332]
 by_cases k3 : o.kind = 3
 ·simp only [k3,decide_true,zq358,zq980 hw,zq332,zq1744,br_ss]
  cases whoOk o.who <;> cases betw o.of_ 0 2 <;> cases betw o.n 1 500 <;> simp [zq358,zq356]
 ·simp only [k3,decide_false,zq356]
  by_cases k4 : o.kind = 4
  ·simp only [k4,zq980 hw,zq332,zq1744,br_ss]
   cases whoOk o.who <;> simp [zq358,zq356]
  ·have k5 : o.kind = 5 := by omega
   simp only [k5,zq1744,zq332]
   cases betw o.n 0 9999 <;> simp [zq358,zq356]
theorem zq1079 (x : Int) : zq1081 x = some (betw x 1 999,()) := by
 unfold zq1081
 rw [br_ss,zq332,zq328]
def zq387 : List En → Int → Int → Int
 | [],_,_ => 0
 | e :: r,i,p => if e.num ≠ i + 1 then 4 else if betw e.epoch 1 999 = false then 3 else if e.epoch < p then 4 else if formO e.op ≠ 0 then formO e.op else zq387 r (i + 1) e.epoch
def zq386 (l : List En) : Int := if l.length > 30 then 2 else zq387 l 0 0
def prevE (l : List En) : Nat → Int
 | 0 => 0
 | i + 1 => match l[i]? with | some e => e.epoch | none => 0
def logIn (l : List En) : Prop := ∀ e ∈ l,e.In
def zq1008 (l : List En) (r : Int) : (((Int × Unit) × Unit) × (List En × Unit)) ⊕ ((Unit) × (List En × Unit)) := if r = 0 then Sum.inr ((),l,()) else Sum.inl (((r,()),()),l,())
theorem zq1009 {l : List En} {r : Int} (h : r ≠ 0) : some (zq1008 l r) = some (Sum.inl (((r,()),()),l,())) := by rw [zq1008,if_neg h]
theorem zq1043 {l : List En} (h : logIn l) : zq1045 l = some (zq386 l,()) := by
 unfold zq1045 zq386
 by_cases hlen : l.length > 30
 ·rw [if_pos hlen,decide_eq_true (show lenL l > 30 by unfold lenL; omega),zq358]
 rw [if_neg hlen,decide_eq_false (show ¬ lenL l > 30 by unfold lenL; omega),zq356]
 have hl : loopN zq1037 FUEL (((),(),(lenL l,()),((((0 : Nat) : Int)),()),()),l,()) = some (zq1008 l (zq387 (l.drop 0) 0 (prevE l 0))) := by
  refine zq1087 (fun i => (((((),(),(lenL l,()),((i : Int),()),()),l,()) : (((Unit) × (Unit) × (Int × Unit) × (Int × Unit) × Unit) × (List En × Unit))))) l.length (fun i => some (zq1008 l (zq387 (l.drop i) (i : Int) (prevE l i)))) (fun rec i hi hr => ?_) (fun rec => ?_) FUEL 0 (Nat.zero_le _) (zq703 (by omega))
  ·obtain ⟨e,he⟩ : ∃ e,l[i]? = some e := ⟨_,zc0 hi⟩
   simp only [zq1037]
   rw [decide_eq_true (show (i : Int) < lenL l by unfold lenL; omega),zq358,zq1463 (zq753 (by omega) (by unfold lenL; omega)),zq709 he,zq332]
   rw [zq1463 (zq747 (by omega) (by omega)),zq550 he,zq387]
   by_cases hn : e.num = (i : Int) + 1
   rotate_left
   ·rw [if_pos hn,decide_eq_false hn,zc19,zq358]
    rfl
   rw [if_neg (fun h0 => h0 hn),decide_eq_true hn,zc10,zq356,zq1079,zq332]
   cases hb : betw e.epoch 1 999
   ·rfl
   simp only [zc10,zq356,Bool.true_eq_false,if_false]
   have hc : (br (decide ((i : Int) > 0)) (req (i64ok ((i : Int) - 1)) (req (zq751 ((i : Int) - 1) (lenL l)) (req (zq751 ((i : Int) - 1) (lenL l)) ((geti l ((i : Int) - 1)).bind fun p3 => some (decide (e.epoch < p3.epoch)))))) (some false)) = some (decide (e.epoch < prevE l i)) := by
    cases i with
    | zero =>
     have := zq329.1 hb
     rw [decide_eq_false (by omega),zq356,decide_eq_false (show ¬ e.epoch < prevE l 0 by simp only [prevE]; omega)]
    | succ k =>
     obtain ⟨e',he'⟩ : ∃ e,l[k]? = some e := ⟨_,zc0 (by omega)⟩
     rw [decide_eq_true (by omega),zq358,show (((k + 1 : Nat) : Int) - 1) = (k : Int) by omega,zq1463 (zq747 (by omega) (by omega)),zq1463 (zq753 (by omega) (by unfold lenL; omega)),zq1463 (zq753 (by omega) (by unfold lenL; omega)),zq709 he',zq332]
     simp only [prevE,he']
   rw [hc,zq332]
   by_cases hp : e.epoch < prevE l i
   ·rw [if_pos hp,decide_eq_true hp,zq358]
    rfl
   rw [if_neg hp,decide_eq_false hp,zq356,zq1659 (h e (zc5 he)).2.2,zq332]
   by_cases hf : formO e.op = 0
   rotate_left
   ·rw [if_pos hf,decide_eq_false hf,zc19,zq358,zq1009 hf]
   rw [if_neg (fun h0 => h0 hf),decide_eq_true hf,zc10,zq356,show ((i : Int) + 1) = ((i + 1 : Nat) : Int) by omega,zq1463 (zq747 (by omega) (by omega)),hr]
   rw [show prevE l (i + 1) = e.epoch by simp only [prevE,he]]
  ·simp only [zq1037]
   rw [decide_eq_false (show ¬ (l.length : Int) < lenL l by unfold lenL; omega),zq356,zc18 (zc47 _)]
   rfl
 rw [show (((0 : Nat) : Int)) = 0 from rfl,List.drop_zero] at hl
 rw [hl,zq332]
 show sumC (zq1008 l (zq387 l 0 0)) _ _ = _
 unfold zq1008
 by_cases h0 : zq387 l 0 0 = 0
 ·rw [if_pos h0,h0]; rfl
 ·rw [if_neg h0]; rfl
end Go.Ma
namespace Go.Ma
open Go
theorem zq416 {l : List En} (h : l.length ≤ 274877906944) : zq1594 l = some (l,()) := by
 unfold zq1594
 rw [zq1463 (zq1488 (by simp [lenL]) (zq989 l) (by unfold lenL; simp; omega)),List.nil_append]
 cases l with
 | nil => exact zq354 _
 | cons a r => rfl
theorem zq649 (x a b : Int) : zq651 x a b = some (betw x a b,()) := by
 unfold zq651
 rw [br_ss,zq332,zq328]
def zq384 (ep h u : Int) (l : List En) : Int :=
 if betw ep 0 999 = false ∨ betw h 0 2 = false ∨ betw u 0 10009 = false then 3
 else if (h = 0 ∧ (ep ≠ 0 ∨ u ≠ 0)) ∨ (h ≠ 0 ∧ ep = 0) then 4
 else if zq386 l ≠ 0 then zq386 l else if l.any (fun e => decide (ep < e.epoch)) = true then 4 else 0
abbrev DK := List En × (Int × Int × Int × Unit) × Unit
def goE (ep : Int) (d : DK) : List En → Int → (((Int × Unit) × Unit) × DK) ⊕ (Unit × DK)
 | [],_ => Sum.inr ((),d)
 | e :: r,i => if e.epoch > ep then Sum.inl (((i,()),()),d) else goE ep d r (i + 1)
theorem zq722 (ep : Int) (d : DK) : ∀ (l : List En) (i : Int),0 ≤ i → sumC (goE ep d l i) (fun y8 => br (decide (y8.1.1.1 ≥ 0)) (some ((4 : Int),())) (some (0,()))) (fun _ => some (0,())) = some (if l.any (fun e => decide (ep < e.epoch)) = true then 4 else 0,())
 | [],_,_ => rfl
 | e :: r,i,hi => by
  unfold goE
  by_cases h : e.epoch > ep
  ·rw [if_pos h]
   have h' : ep < e.epoch := h
   simp only [sumC,List.any_cons,decide_eq_true h',Bool.true_or,if_true]
   rw [decide_eq_true (show i ≥ 0 from hi),zq358]
  ·rw [if_neg h,zq722 ep d r (i + 1) (by omega)]
   have h' : ¬ ep < e.epoch := h
   simp only [List.any_cons,decide_eq_false h',Bool.false_or]
theorem zq645 {ep h u : Int} {l : List En} (hl : l.length < 9223372036854775808) :
  loopN zq607 FUEL (((),(),(lenL l,()),(0,()),()),(l,(ep,h,u,()),())) = some (goE ep (l,(ep,h,u,()),()) l 0) := by
 have := zq1087 (step := zq607) (fun i => (((),(),(lenL l,()),((i : Int),()),()),(l,(ep,h,u,()),()))) l.length (fun i => some (goE ep (l,(ep,h,u,()),()) (l.drop i) i)) (fun rec i hi hr => ?_) (fun rec => ?_) FUEL 0 (Nat.zero_le _) (zq703 (by omega))
 ·exact this
 ·obtain ⟨e,he⟩ : ∃ e,l[i]? = some e := ⟨_,zc0 hi⟩
  simp only [zq607]
  rw [decide_eq_true (show (i : Int) < lenL l by unfold lenL; omega),zq358,zq1463 (zq753 (by omega) (by unfold lenL; omega)),zq709 he,zq332,zq550 he]
  simp only [zq601,zq332,goE]
  by_cases hp : e.epoch > ep
  ·rw [if_pos hp,decide_eq_true hp,zq358]
  ·rw [if_neg hp,decide_eq_false hp,zq356,show ((i : Int) + 1) = ((i + 1 : Nat) : Int) by omega,zq1463 (zq747 (by omega) (by omega)),hr]
 ·simp only [zq607]
  rw [decide_eq_false (show ¬ (l.length : Int) < lenL l by unfold lenL; omega),zq356,zc18 (zc47 _)]
  rfl
theorem zq390 {l : List En} (h : zq386 l = 0) : l.length ≤ 30 := by
 unfold zq386 at h
 split at h
 ·cases h
 ·omega
theorem zq605 (ep h u : Int) {l : List En} (hl : logIn l) : zq617 ep h u l = some (zq384 ep h u l,()) := by
 unfold zq617 zq384
 simp only [zq649,zq332,br_sb]
 cases h1 : betw ep 0 999 <;> cases h2 : betw h 0 2 <;> cases h3 : betw u 0 10009 <;> simp only [zc19,zc10,cond_true,cond_false,zq358,zq356,true_or,or_true,if_true]
 simp only [Bool.true_eq_false,or_self,if_false]
 have tail : ((zq1045 l).bind fun y6 => br (!decide (y6.1 = 0)) (some (y6.1,())) ((loopN zq607 FUEL (((),(),(lenL l,()),(0,()),()),(l,(ep,h,u,()),()))).bind fun y7 =>
   sumC y7 (fun y8 => br (decide (y8.1.1.1 ≥ 0)) (some ((4 : Int),())) (some (0,()))) (fun y9 => some (0,())))) = some (if zq386 l ≠ 0 then zq386 l else if l.any (fun e => decide (ep < e.epoch)) = true then 4 else 0,()) := by
  rw [zq1043 hl,zq332]
  by_cases h0 : zq386 l = 0
  ·rw [if_neg (fun h => h h0),decide_eq_true (show (zq386 l,()).1 = 0 from h0),zc10,zq356,zq645 (by have := zq390 h0; omega),zq332,zq722 _ _ _ _ (by omega)]
  ·rw [if_pos h0,decide_eq_false (show ¬ (zq386 l,()).1 = 0 from h0),zc19,zq358]
 by_cases k : h = 0
 ·by_cases k1 : ep = 0
  ·by_cases k2 : u = 0
   ·simp only [k,k1,k2,decide_true,cond_true,zc10,zq358,zq356,cond_false] at tail ⊢
    rw [if_neg (by simp)]
    exact tail
   ·simp [k,k1,k2,zq358,zq356]
  ·simp [k,k1,zq358,zq356]
 ·by_cases k1 : ep = 0
  ·simp [k,k1,zq358,zq356]
  ·simp only [k,k1,decide_false,cond_true,zc19,zq358,zq356,cond_false] at tail ⊢
   rw [if_neg (by simp)]
   exact tail
abbrev Dk := Int × Int × Int × (List En) × Unit
def noDk : Dk := (0,0,0,[],())
def overL (h u now : Int) : Bool := decide (h = 0) || decide (u < now)
def acqOf (ep h u : Int) (l : List En) (who now : Int) : Dk × Int × Unit :=
 if overL h u now = false ∧ h ≠ who then (noDk,4,()) else if overL h u now = true ∧ ep = 999 then (noDk,2,()) else ((if overL h u now = true then ep + 1 else ep,who,now + 10,l,()),0,())
theorem zq630 (ep h u : Int) {l : List En} (hl : l.length ≤ 274877906944) : zq632 ep h u l = some ((ep,h,u,l,()),()) := by
 unfold zq632
 rw [zq416 hl,zq332]
theorem zq624 (ep h u : Int) {l : List En} (hl : l.length ≤ 274877906944) (who now : Int) (h1 : 0 ≤ ep) (h2 : ep ≤ 999) (h3 : 0 ≤ now) (h4 : now ≤ 9999) : zq626 ep h u l who now = some (acqOf ep h u l who now) := by
 unfold zq626 acqOf
 rw [zq630 ep h u hl,zq332,br_ss,zq332]
 have e : (bif decide (h = 0) then true else decide (u < now)) = overL h u now := by unfold overL; cases decide (h = 0) <;> rfl
 simp only [e,br_sb,zq332]
 have i1 : i64ok (ep + 1) = true := zq747 (by omega) (by omega)
 have i2 : i64ok (now + 10) = true := zq747 (by omega) (by omega)
 simp only [i1,i2,zq1466]
 cases overL h u now
 ·by_cases k : h = who <;> simp [k,zq358,zq356,noDk]
 ·by_cases k : ep = 999 <;> simp [k,zq358,zq356,noDk]
def zq223 (ep h u : Int) (l : List En) (who now : Int) : Dk × Int × Int × Unit :=
 if zq384 ep h u l ≠ 0 then (noDk,0,zq384 ep h u l,())
 else if betw who 1 2 = false ∨ betw now 0 9999 = false then (noDk,0,3,())
 else ((acqOf ep h u l who now).1,(acqOf ep h u l who now).1.1,(acqOf ep h u l who now).2.1,())
theorem zq385 {ep h u : Int} {l : List En} (hc : zq384 ep h u l = 0) : (0 ≤ ep ∧ ep ≤ 999) ∧ (0 ≤ h ∧ h ≤ 2) ∧ (0 ≤ u ∧ u ≤ 10009) ∧ ((h = 0 ∧ ep = 0 ∧ u = 0) ∨ (h ≠ 0 ∧ ep ≠ 0)) ∧ zq386 l = 0 ∧ l.any (fun e => decide (ep < e.epoch)) = false := by
 unfold zq384 at hc
 split at hc
 ·cases hc
 rename_i h1
 split at hc
 ·cases hc
 rename_i h2
 split at hc
 ·rename_i h3; exact absurd hc h3
 rename_i h3
 split at hc
 ·cases hc
 rename_i h4
 simp only [not_or,Bool.not_eq_false,zq329] at h1
 refine ⟨h1.1,h1.2.1,h1.2.2,?_,zc49.1 h3,by simpa using h4⟩
 omega
theorem zq594 (ep h u : Int) {l : List En} (hl : logIn l) (who now : Int) : zq596 ep h u l who now = some (zq223 ep h u l who now) := by
 unfold zq596 zq223
 rw [zq605 ep h u hl,zq332]
 by_cases h0 : zq384 ep h u l = 0
 ·obtain ⟨h1,h2,h3,h4,h5,_⟩ := zq385 h0
  have hlen := zq390 h5
  simp only [h0,decide_true,zq358,zq649,zq332,br_sb,ne_eq,not_true,if_false,zc10,zq356]
  cases k1 : betw who 1 2
  ·rfl
  cases k2 : betw now 0 9999
  ·rfl
  simp only [zc10,zq356,zq332,Bool.true_eq_false,or_self,if_false]
  obtain ⟨k3,k4⟩ := zq329.1 k2
  rw [zq624 ep h u (by omega) who now h1.1 h1.2 k3 k4,zq332]
  try simp only [zq553,zq354]
  rfl
 ·simp [h0,zq356,zq358,noDk]
def zq1124 (l : List En) (ep : Int) (o : Oq) : (List En) × Int × Unit :=
 if betw ep 1 999 = false then ([],3,()) else if ep < prevE l l.length then ([],4,()) else if formO o ≠ 0 then ([],formO o,()) else if l.length = 30 then ([],2,()) else (l ++ [⟨lenL l + 1,ep,o⟩],0,())
theorem zq813 {l : List En} {ep : Int} (hl : l.length ≤ 30) (he : 0 ≤ ep) : (br (decide (lenL l > 0)) (req (i64ok ((lenL l) - 1)) <| req (zq751 ((lenL l) - 1) (lenL l)) <| req (zq751 ((lenL l) - 1) (lenL l)) <| (geti l ((lenL l) - 1)).bind fun p2 => some (decide (ep < p2.epoch))) (some false)) = some (decide (ep < prevE l l.length)) := by
 cases hn : l.length with
 | zero =>
  rw [decide_eq_false (show ¬ lenL l > 0 by unfold lenL; omega),zq356,decide_eq_false (show ¬ ep < prevE l 0 by simp only [prevE]; omega)]
 | succ k =>
  obtain ⟨e,he⟩ : ∃ e,l[k]? = some e := ⟨_,zc0 (by omega)⟩
  have e1 : lenL l - 1 = (k : Int) := by unfold lenL; omega
  rw [decide_eq_true (show lenL l > 0 by unfold lenL; omega),zq358,e1,zq1463 (zq747 (by omega) (by omega)),zq1463 (zq753 (by omega) (by unfold lenL; omega)),zq1463 (zq753 (by omega) (by unfold lenL; omega)),zq709 he,zq332]
  simp only [prevE,he]
theorem zq1066 {l : List En} (hl : l.length ≤ 30) (ep : Int) {o : Oq} (ho : o.In) : zq1068 l ep o = some (zq1124 l ep o) := by
 unfold zq1068 zq1124
 rw [zq1079,zq332]
 cases h1 : betw ep 1 999
 ·rfl
 obtain ⟨h2,h3⟩ := zq329.1 h1
 simp only [zc10,zq356,Bool.true_eq_false,if_false]
 rw [zq813 hl (by omega),zq332]
 by_cases h4 : ep < prevE l l.length
 ·rw [decide_eq_true h4,zq358,if_pos h4]
 rw [decide_eq_false h4,zq356,if_neg h4,zq1659 ho,zq332]
 by_cases h5 : formO o = 0
 ·rw [decide_eq_true (show (formO o,()).1 = 0 from h5),zc10,zq356,if_neg (fun h => h h5)]
  by_cases h6 : l.length = 30
  ·rw [decide_eq_true (show lenL l = 30 by unfold lenL; omega),zq358,if_pos h6]
  ·rw [decide_eq_false (show ¬ lenL l = 30 by unfold lenL; omega),zq356,if_neg h6,zq553,zq416 (by omega),zq332,zq1463 (zq747 (by unfold lenL; omega) (by unfold lenL; omega))]
   rw [zq1463 (zq1488 (zq989 _) (zq989 _) (by simp only [lenL,zc21,zc32]; omega))]
 ·rw [decide_eq_false (show ¬ (formO o,()).1 = 0 from h5),zc19,zq358,if_pos h5]
def putOf (ep h u : Int) (l : List En) (e : Int) (o : Oq) : Dk × Int × Unit :=
 if e = 0 ∨ e ≠ ep then (noDk,4,()) else if (zq1124 l e o).2.1 ≠ 0 then (noDk,(zq1124 l e o).2.1,()) else ((ep,h,u,(zq1124 l e o).1,()),0,())
theorem zq636 (ep h u : Int) {l : List En} (hl : l.length ≤ 30) (e : Int) {o : Oq} (ho : o.In) : zq638 ep h u l e o = some (putOf ep h u l e o) := by
 unfold zq638 putOf
 rw [br_sb,zq332,zq1066 hl e ho,zq332]
 by_cases h1 : e = 0
 ·simp [h1,zq358,noDk]
 by_cases h2 : e = ep
 ·rw [if_neg (by simp [h1,h2]; omega)]
  simp only [decide_eq_false h1,decide_eq_true h2,cond_false,zc10,zq356]
  by_cases h3 : (zq1124 l e o).2.1 = 0 <;> simp [h3,zq358,zq356,noDk]
 ·simp [h1,h2,zq358,noDk]
def zq1825 (ep h u : Int) (l : List En) (e : Int) (o : Oq) : Dk × Int × Unit :=
 if zq384 ep h u l ≠ 0 then (noDk,zq384 ep h u l,()) else putOf ep h u l e o
theorem zq642 (ep h u : Int) {l : List En} (hl : logIn l) (e : Int) {o : Oq} (ho : o.In) : zq644 ep h u l e o = some (zq1825 ep h u l e o) := by
 unfold zq644 zq1825
 rw [zq605 ep h u hl,zq332]
 by_cases h0 : zq384 ep h u l = 0
 ·have hlen := zq390 (zq385 h0).2.2.2.2.1
  rw [decide_eq_true (show (zq384 ep h u l,()).1 = 0 from h0),zc10,zq356,zq636 ep h u hlen e ho,zq332,if_neg (fun h => h h0)]
 ·rw [decide_eq_false (show ¬ (zq384 ep h u l,()).1 = 0 from h0),zc19,zq358,if_pos h0]
  rfl
def op1 : Oq := ⟨1,⟨⟨false,0,8⟩,30⟩,⟨false,0,0⟩,ByteArray.empty,0,0⟩
def op2 : Oq := ⟨2,⟨⟨false,0,0⟩,0⟩,⟨false,0,8⟩,ByteArray.empty,0,0⟩
def op3 : Oq := ⟨3,⟨⟨false,0,0⟩,0⟩,⟨false,0,0⟩,⟨#[120]⟩,0,10⟩
def ents : List En := [⟨1,1,op1⟩,⟨2,1,op2⟩,⟨3,4,op3⟩]
theorem zq1628 : zq897 = some ([op1,op2,op3],()) := rfl
theorem zq575 : zq867 = some (ents,()) := rfl
theorem store_eq : zq904 = some ((4,1,12,ents,()),()) := rfl
theorem z_in : (⟨false,0,0⟩ : Ad).In := by constructor <;> constructor <;> decide
theorem op_in : op1.In ∧ op2.In ∧ op3.In := by
 have a8 : (⟨false,0,8⟩ : Ad).In := by constructor <;> constructor <;> decide
 have e0 : strIn ByteArray.empty := by unfold strIn; exact Nat.zero_le _
 have e1 : strIn ⟨#[120]⟩ := by unfold strIn maxLen; decide
 have n : ∀ x : Int,0 ≤ x → x < 100 → i64In x := fun x h h' => ⟨by omega,by omega⟩
 exact ⟨⟨n _ (by decide) (by decide),⟨a8,n _ (by decide) (by decide)⟩,z_in,e0,n _ (by decide) (by decide),n _ (by decide) (by decide)⟩,
  ⟨n _ (by decide) (by decide),⟨z_in,n _ (by decide) (by decide)⟩,a8,e0,n _ (by decide) (by decide),n _ (by decide) (by decide)⟩,
  ⟨n _ (by decide) (by decide),⟨z_in,n _ (by decide) (by decide)⟩,z_in,e1,n _ (by decide) (by decide),n _ (by decide) (by decide)⟩⟩
theorem zq577 : logIn ents := by
 have n : ∀ x : Int,0 ≤ x → x < 100 → i64In x := fun x h h' => ⟨by omega,by omega⟩
 intro e he
 simp only [ents,zc28,List.not_mem_nil,or_false] at he
 rcases he with rfl | rfl | rfl
 ·exact ⟨n _ (by decide) (by decide),n _ (by decide) (by decide),op_in.1⟩
 ·exact ⟨n _ (by decide) (by decide),n _ (by decide) (by decide),op_in.2.1⟩
 ·exact ⟨n _ (by decide) (by decide),n _ (by decide) (by decide),op_in.2.2⟩
def ents4 : List En := ents ++ [⟨4,4,op3⟩]
def ents5 : List En := ents ++ [⟨4,5,op3⟩]
theorem zq406 : zq384 4 1 12 ents = 0 := by decide +kernel
theorem acq1 : zq223 4 1 12 ents 2 13 = ((5,2,23,ents,()),5,0,()) := by decide +kernel
theorem acq2 : zq223 4 1 12 ents 2 12 = (noDk,0,4,()) := by decide +kernel
theorem acq3 : zq223 4 1 12 ents 1 12 = ((4,1,22,ents,()),4,0,()) := by decide +kernel
theorem wr1 : zq1825 5 2 23 ents 4 op3 = (noDk,4,()) := by decide +kernel
theorem wr2 : zq1825 5 2 23 ents 5 op3 = ((5,2,23,ents5,()),0,()) := by decide +kernel
theorem in2 : zq751 2 (lenL [op1,op2,op3]) = true := rfl
theorem get2 : geti [op1,op2,op3] 2 = some op3 := rfl
theorem zq590 : zq877 = some (true,()) := by
 unfold zq877
 simp only [store_eq,zq1628,zq332,zq594 _ _ _ zq577,zq605 _ _ _ zq577,zq642 _ _ _ zq577 _ op_in.2.2,acq1,acq2,acq3,zq553,in2,get2,zq1466,wr1,wr2,zq406,decide_true,zq358,zq354]
 rfl
theorem zq293 {l : List En} {a b : Int} (h : l.any (fun e => decide (a < e.epoch)) = false) (hab : a ≤ b) : l.any (fun e => decide (b < e.epoch)) = false := by
 rw [List.any_eq_false] at h ⊢
 intro e he
 have := h e he
 simp only [decide_eq_true_eq] at this ⊢
 omega
theorem zq220 {ep h u : Int} {l : List En} {who now : Int} (hc : zq384 ep h u l = 0) (hw : 1 ≤ who ∧ who ≤ 2) (hn : 0 ≤ now ∧ now ≤ 9999) (ho : overL h u now = true ∨ h = who) (he : overL h u now = true → ep ≠ 999) :
  zq384 (if overL h u now = true then ep + 1 else ep) who (now + 10) l = 0 := by
 obtain ⟨h1,h2,h3,h4,h5,h6⟩ := zq385 hc
 have key : ∀ e : Int,1 ≤ e → e ≤ 999 → ep ≤ e → zq384 e who (now + 10) l = 0 := by
  intro e g1 g2 g3
  unfold zq384
  rw [if_neg,if_neg,if_neg (fun h => h h5),if_neg (by rw [zq293 h6 g3]; simp)]
  ·rintro (⟨g,_⟩ | ⟨_,g⟩) <;> omega
  ·simp only [not_or,Bool.not_eq_false,zq329]
   omega
 cases hov : overL h u now
 ·simp only [zc16,if_false]
  have hh : h = who := by
   rcases ho with ho | ho
   ·rw [hov] at ho; cases ho
   ·exact ho
  refine key ep ?_ h1.2 (Int.le_refl _)
  rcases h4 with ⟨g,_,_⟩ | ⟨_,g⟩
  ·omega
  ·omega
 ·simp only [if_true]
  have := he hov
  exact key (ep + 1) (by omega) (by omega) (by omega)
end Go.Ma
namespace Go.Ma
open Go
theorem zq86 {o : Oq} (h : o.In) : zq88 o = some (formO o,()) := by
 obtain ⟨_,hp,ha,hw,_,_⟩ := h
 unfold zq88 formO
 rw [zq157,zq332]
 cases hk : betw o.kind 1 5
 ·rfl
 obtain ⟨hk1,hk2⟩ := zq329.1 hk
 simp only [zc10,zq356,Bool.true_eq_false,if_false,br_sb,zq332]
 have e : ∀ a b : Option (Int × Unit),br (bif (bif (bif (bif (bif !decide (o.kind = 1) then !(eqPf o.pf ⟨⟨false,0,0⟩,0⟩) else false) then true else (bif !decide (o.kind = 2) then !(eqAd o.ad ⟨false,0,0⟩) else false))
  then true else (bif !decide (o.kind = 3) then (bif !decide (o.kind = 4) then zq1758 .neq o.who ByteArray.empty else false) else false))
  then true else (bif !decide (o.kind = 3) then !decide (o.of_ = 0) else false))
  then true else (bif !decide (o.kind = 3) then (bif !decide (o.kind = 5) then !decide (o.n = 0) else false) else false)) a b = br (zq589 o) a b := fun _ _ => rfl
 rw [e]
 cases zq589 o
 rotate_left
 ·rfl
 simp only [zq356,zc16,if_false]
 by_cases k1 : o.kind = 1
 ·rw [decide_eq_true k1,zq358,if_pos k1,zq95 hp,zq332]
  by_cases hc : chkP o.pf = 0
  ·simp only [hc,decide_true,zq358,ne_eq,not_true,if_false,zq113 hc,zq332]
   by_cases hn : ((wid o.pf.ad.v6 : Nat) : Int) - o.pf.bits ≤ 4 <;> simp [hn,zq358,zq356]
  ·simp only [hc,decide_false,zq356,zq332,ne_eq,not_false_eq_true,if_true]
 rw [decide_eq_false k1,zq356,if_neg k1]
 by_cases k2 : o.kind = 2
 ·rw [decide_eq_true k2,zq358,if_pos k2,zq44 ha,zq332]
 rw [decide_eq_false k2,zq356,if_neg k2]
 by_cases k3 : o.kind = 3
 ·simp only [k3,decide_true,zq358,zq122 hw,zq332,zq157,br_sb,show decide ((3 : Int) < 5) = true from rfl,show decide ((3 : Int) = 5) = false from rfl,zq356]
  cases whoOk o.who <;> cases betw o.of_ 0 2 <;> cases betw o.n 1 500 <;> simp [zq358,zq356]
 ·by_cases k4 : o.kind = 4
  ·simp only [k4,zq122 hw,zq332,show decide ((4 : Int) < 5) = true from rfl,show decide ((4 : Int) = 5) = false from rfl,show decide ((4 : Int) = 3) = false from rfl,zq356,zq358]
   cases whoOk o.who <;> simp [zq358,zq356]
  ·have k5 : o.kind = 5 := by omega
   simp only [k5,zq157,zq332,show decide ((5 : Int) < 5) = false from rfl,show decide ((5 : Int) = 5) = true from rfl,show decide ((5 : Int) = 3) = false from rfl,zq356,zq358]
   cases betw o.n 0 9999 <;> simp [zq358,zq356]
theorem zq80 {l : List En} (h : logIn l) : zq82 l = some (zq386 l,()) := by
 unfold zq82 zq386
 by_cases hlen : l.length > 30
 ·rw [if_pos hlen,decide_eq_true (show lenL l > 30 by unfold lenL; omega),zq358]
 rw [if_neg hlen,decide_eq_false (show ¬ lenL l > 30 by unfold lenL; omega),zq356]
 have hl : loopN zq74 FUEL (((),((((0 : Nat) : Int)),()),()),l,()) = some (zq1008 l (zq387 (l.drop 0) 0 (prevE l 0))) := by
  refine zq1087 (step := zq74) (fun i => (((),((i : Int),()),()),l,())) l.length (fun i => some (zq1008 l (zq387 (l.drop i) (i : Int) (prevE l i)))) (fun rec i hi hr => ?_) (fun rec => ?_) FUEL 0 (Nat.zero_le _) (zq703 (by omega))
  ·obtain ⟨e,he⟩ : ∃ e,l[i]? = some e := ⟨_,zc0 hi⟩
   have hr1 : zq751 (i : Int) (lenL l) = true := zq753 (by omega) (by unfold lenL; omega)
   have hi1 : i64ok ((i : Int) + 1) = true := zq747 (by omega) (by omega)
   simp only [zq74]
   rw [decide_eq_true (show (i : Int) < lenL l by unfold lenL; omega),zq358]
   simp only [hr1,hi1,zq1466,zq709 he,zq332]
   rw [zq550 he,zq387]
   by_cases hn : e.num = (i : Int) + 1
   rotate_left
   ·rw [if_pos hn,decide_eq_false hn,zc19,zq358]
    rfl
   rw [if_neg (fun h0 => h0 hn),decide_eq_true hn,zc10,zq356,zq157,zq332]
   cases hb : betw e.epoch 1 999
   ·rfl
   simp only [zc10,zq356,Bool.true_eq_false,if_false]
   have hc : (br (decide ((i : Int) > 0)) (req (i64ok ((i : Int) - 1)) (req (zq751 ((i : Int) - 1) (lenL l)) (req (zq751 ((i : Int) - 1) (lenL l)) ((geti l ((i : Int) - 1)).bind fun p3 => some (decide (e.epoch < p3.epoch)))))) (some false)) = some (decide (e.epoch < prevE l i)) := by
    cases i with
    | zero =>
     have := zq329.1 hb
     rw [decide_eq_false (by omega),zq356,decide_eq_false (show ¬ e.epoch < prevE l 0 by simp only [prevE]; omega)]
    | succ k =>
     obtain ⟨e',he'⟩ : ∃ e,l[k]? = some e := ⟨_,zc0 (by omega)⟩
     rw [decide_eq_true (by omega),zq358,show (((k + 1 : Nat) : Int) - 1) = (k : Int) by omega,zq1463 (zq747 (by omega) (by omega)),zq1463 (zq753 (by omega) (by unfold lenL; omega)),zq1463 (zq753 (by omega) (by unfold lenL; omega)),zq709 he',zq332]
     simp only [prevE,he']
   rw [hc,zq332]
   by_cases hp : e.epoch < prevE l i
   ·rw [if_pos hp,decide_eq_true hp,zq358]
    rfl
   rw [if_neg hp,decide_eq_false hp,zq356,zq86 (h e (zc5 he)).2.2,zq332]
   by_cases hf : formO e.op = 0
   rotate_left
   ·rw [if_pos hf,decide_eq_false hf,zc19,zq358,zq1009 hf]
   rw [if_neg (fun h0 => h0 hf),decide_eq_true hf,zc10,zq356,show ((i : Int) + 1) = ((i + 1 : Nat) : Int) by omega,hr]
   rw [show prevE l (i + 1) = e.epoch by simp only [prevE,he]]
  ·simp only [zq74]
   rw [decide_eq_false (show ¬ (l.length : Int) < lenL l by unfold lenL; omega),zq356,zc18 (zc47 _)]
   rfl
 rw [show (((0 : Nat) : Int)) = 0 from rfl,List.drop_zero] at hl
 rw [hl,zq332]
 show sumC (zq1008 l (zq387 l 0 0)) _ _ = _
 unfold zq1008
 by_cases h0 : zq387 l 0 0 = 0
 ·rw [if_pos h0,h0]; rfl
 ·rw [if_neg h0]; rfl
theorem zq145 {l l' : List En} (hl : l.length < 9223372036854775808) : zq147 l l' = some (decide (l = l'),()) := by
 unfold zq147
 by_cases hn : l.length = l'.length
 rotate_left
 ·rw [decide_eq_false (show ¬ lenL l = lenL l' by unfold lenL; omega),zc19,zq358,decide_eq_false (fun h => hn (by rw [h]))]
 rw [decide_eq_true (show lenL l = lenL l' by unfold lenL; omega),zc10,zq356]
 have hlp : loopN zq139 FUEL (((),(),(0,()),()),(l,l',())) = some (if l.drop 0 = l'.drop 0 then Sum.inr ((),(l,l',())) else Sum.inl ((((false : Bool),()),()),(l,l',()))) := by
  refine zq1087 (step := zq139) (fun i => (((),(),((i : Int),()),()),(l,l',()))) l.length (fun i => some (if l.drop i = l'.drop i then Sum.inr ((),(l,l',())) else Sum.inl ((((false : Bool),()),()),(l,l',())))) (fun rec i hi hr => ?_) (fun rec => ?_) FUEL 0 (Nat.zero_le _) (zq703 (by omega))
  ·obtain ⟨e,he⟩ : ∃ e,l[i]? = some e := ⟨_,zc0 hi⟩
   obtain ⟨e',he'⟩ : ∃ e,l'[i]? = some e := ⟨_,zc0 (by omega)⟩
   simp only [zq139]
   rw [decide_eq_true (show (i : Int) < lenL l by unfold lenL; omega),zq358,zq1463 (zq753 (by omega) (by unfold lenL; omega)),zq709 he,zq332,zq1463 (zq753 (by omega) (by unfold lenL; omega)),zq709 he',zq332,zq582,zq550 he,zq550 he']
   by_cases hee : e = e'
   ·rw [decide_eq_true hee,zc10,zq356,show ((i : Int) + 1) = ((i + 1 : Nat) : Int) by omega,zq1463 (zq747 (by omega) (by omega)),hr]
    subst hee
    simp
   ·rw [decide_eq_false hee,zc19,zq358]
    simp [hee]
  ·simp only [zq139]
   rw [decide_eq_false (show ¬ (l.length : Int) < lenL l by unfold lenL; omega),zq356,zc18 (zc47 _),zc18 (show l'.length ≤ l.length by omega)]
   rfl
 rw [hlp,zq332,List.drop_zero,List.drop_zero]
 by_cases h : l = l'
 ·rw [if_pos h,decide_eq_true h]; rfl
 ·rw [if_neg h,decide_eq_false h]; rfl
theorem zq538 (ep h u : Int) {l : List En} (hl : l.length < 9223372036854775808) : ∀ (N : Nat) (e : Int) (i : Nat),i ≤ l.length → l.length - i < N →
  loopN zq59 N (((),(e,()),((i : Int),()),()),(l,(ep,h,u,()),())) = some (((if e = 0 then (if (l.drop i).any (fun x => decide (ep < x.epoch)) = true then 4 else 0) else e,()),()),(l,())) := by
 intro N
 induction N with
 | zero => intro e i _ h; omega
 | succ N ih =>
  intro e i hi hn
  rw [zq1083]
  simp only [zq59,br_sb,zq332]
  by_cases hin : i < l.length
  ·obtain ⟨x,hx⟩ : ∃ e,l[i]? = some e := ⟨_,zc0 hin⟩
   rw [decide_eq_true (show (i : Int) < lenL l by unfold lenL; omega),cond_true]
   by_cases he : e = 0
   ·have hr1 : zq751 (i : Int) (lenL l) = true := zq753 (by omega) (by unfold lenL; omega)
    have hi1 : i64ok ((i : Int) + 1) = true := zq747 (by omega) (by omega)
    rw [decide_eq_true he,zq358,if_pos he]
    simp only [hr1,hi1,zq1466,zq709 hx,zq332]
    rw [show ((i : Int) + 1) = ((i + 1 : Nat) : Int) by omega,ih _ (i + 1) (by omega) (by omega),ih _ (i + 1) (by omega) (by omega),zq550 hx]
    by_cases hp : x.epoch > ep
    ·have hp' : ep < x.epoch := hp
     rw [decide_eq_true hp,zq358]
     simp [hp']
    ·have hp' : ¬ ep < x.epoch := hp
     rw [decide_eq_false hp,zq356]
     simp [hp',he]
   ·rw [decide_eq_false he,zq356,if_neg he]
  ·rw [decide_eq_false (show ¬ (i : Int) < lenL l by unfold lenL; omega),cond_false,zq356,zc18 (by omega)]
   by_cases he : e = 0
   ·rw [if_pos he,he]; rfl
   ·rw [if_neg he]
theorem zq65 (ep h u : Int) {l : List En} (hl : logIn l) (hlen : l.length < 9223372036854775808) : zq67 ep h u l = some (zq384 ep h u l,()) := by
 unfold zq67 zq384
 simp only [zq157,zq332,br_sb]
 cases h1 : betw ep 0 999 <;> cases h2 : betw h 0 2 <;> cases h3 : betw u 0 10009 <;> simp only [zc19,zc10,cond_true,cond_false,zq358,zq356,true_or,or_true,if_true]
 simp only [Bool.true_eq_false,or_self,if_false]
 obtain ⟨a1,a2⟩ := zq329.1 h1
 obtain ⟨a3,a4⟩ := zq329.1 h2
 obtain ⟨a5,a6⟩ := zq329.1 h3
 rw [zq80 hl,zq332]
 have hd := zq538 ep h u hlen FUEL (zq386 l) 0 (Nat.zero_le _) (zq703 (by omega))
 rw [show (((0 : Nat) : Int)) = 0 from rfl,List.drop_zero] at hd
 simp only
 rw [hd,zq332]
 have tail : (if zq386 l = 0 then (if l.any (fun x => decide (ep < x.epoch)) = true then (4 : Int) else 0) else zq386 l) = (if zq386 l ≠ 0 then zq386 l else if l.any (fun e => decide (ep < e.epoch)) = true then 4 else 0) := by
  by_cases hc : zq386 l = 0
  ·simp only [hc,if_true,ne_eq,not_true,if_false]
  ·rw [if_neg hc,if_pos hc]
 simp only [tail]
 by_cases k : h = 0
 ·by_cases k1 : ep = 0
  ·by_cases k2 : u = 0
   ·simp [k,k1,k2,zq356]
   ·have : u > 0 := by omega
    simp [k,k1,k2,this,zq358]
  ·have : ep > 0 := by omega
   simp [k,k1,this,zq358]
 ·have : h > 0 := by omega
  by_cases k1 : ep = 0
  ·simp [k,k1,this,zq358]
  ·simp [k,k1,zq356]
theorem zq17 {l : List En} (hl : l.length ≤ 30) (ep : Int) {o : Oq} (ho : o.In) : zq19 l ep o = some (zq1124 l ep o) := by
 unfold zq19 zq1124
 rw [zq157,zq332]
 cases h1 : betw ep 1 999
 ·rfl
 obtain ⟨h2,h3⟩ := zq329.1 h1
 simp only [zc10,zq356,Bool.true_eq_false,if_false]
 rw [zq813 hl (by omega),zq332]
 by_cases h4 : ep < prevE l l.length
 ·rw [decide_eq_true h4,zq358,if_pos h4]
 rw [decide_eq_false h4,zq356,if_neg h4,zq86 ho,zq332]
 by_cases h5 : formO o = 0
 ·rw [decide_eq_true (show (formO o,()).1 = 0 from h5),zc10,zq356,if_neg (fun h => h h5)]
  by_cases h6 : l.length = 30
  ·rw [decide_eq_true (show lenL l = 30 by unfold lenL; omega),zq358,if_pos h6]
  ·rw [decide_eq_false (show ¬ lenL l = 30 by unfold lenL; omega),zq356,if_neg h6]
   have r1 : room (lenL ([] : List En)) (lenL l) = true := zq1488 (zq989 _) (zq989 _) (by simp only [lenL,zc32]; omega)
   have r2 : ∀ x : En,room (lenL l) (lenL [x]) = true := fun x => zq1488 (zq989 _) (zq989 _) (by simp only [lenL,zc21,zc32]; omega)
   have r3 : i64ok (lenL l + 1) = true := zq747 (by unfold lenL; omega) (by unfold lenL; omega)
   simp only [List.nil_append,r1,r2,r3,zq1466,zq553,zq354]
 ·rw [decide_eq_false (show ¬ (formO o,()).1 = 0 from h5),zc19,zq358,if_pos h5]
theorem zq151 (ep h u : Int) {l : List En} (hl : l.length ≤ 30) (e : Int) {o : Oq} (ho : o.In) : zq153 ep h u l e o = some (putOf ep h u l e o) := by
 unfold zq153 putOf
 rw [br_sb,zq332,zq17 hl e ho,zq332]
 by_cases h1 : e = 0
 ·simp [h1,zq358,noDk]
 by_cases h2 : e = ep
 ·rw [if_neg (by simp [h1,h2]; omega)]
  simp only [decide_eq_false h1,decide_eq_true h2,cond_false,zc10,zq356]
  by_cases h3 : (zq1124 l e o).2.1 = 0 <;> simp [h3,zq358,zq356,noDk]
 ·simp [h1,h2,zq358,noDk]
theorem zq136 (a0 a1 a2 : Int) {a3 : List En} (b0 b1 b2 : Int) (b3 : List En) (hl : a3.length < 9223372036854775808) : zq138 a0 a1 a2 a3 b0 b1 b2 b3 = some (decide (((a0,a1,a2,a3,()) : Dk) = (b0,b1,b2,b3,())),()) := by
 unfold zq138
 simp only [zq145 hl,zq332,br_sb]
 congr 1
 simp only [Prod.mk.injEq,and_true]
 by_cases h0 : a0 = b0 <;> by_cases h1 : a1 = b1 <;> by_cases h2 : a2 = b2 <;> simp [h0,h1,h2]
theorem zq222 {ep h u : Int} (l : List En) (who now : Int) (h1 : ep ≤ 999) : acqOf ep h u l who now =
  (let held := !decide (h = 0) && decide (u ≥ now)
   if held = true ∧ h ≠ who then (noDk,4,()) else if held = false then (if ep + 1 > 999 then (noDk,2,()) else ((ep + 1,who,now + 10,l,()),0,())) else if ep > 999 then (noDk,2,()) else ((ep,who,now + 10,l,()),0,())) := by
 have hv : (!decide (h = 0) && decide (u ≥ now)) = !overL h u now := by
  unfold overL
  by_cases k : h = 0
  ·simp [k]
  ·by_cases k2 : u < now
   ·have : ¬ u ≥ now := by omega
    simp [k,k2,this]
   ·have : u ≥ now := by omega
    simp [k,k2,this]
 simp only [hv]
 unfold acqOf
 cases overL h u now
 ·by_cases k : h = who
  ·have : ¬ ep > 999 := by omega
   simp [k,this]
  ·simp [k]
 ·by_cases k : ep = 999
  ·have : ep + 1 > 999 := by omega
   simp [k]
  ·have : ¬ ep + 1 > 999 := by omega
   simp [k,this]
end Go.Ma
namespace Go.Ma
open Go
section
variable {α A R : Type}
theorem zq750 {step : (A → Option R) → A → Option R} (b : List α) (q : α → Bool) (mk : Nat → A) (out : Option Nat → R) (hlen : b.length < 9223372036854775808)
  (h : ∀ (rec : A → Option R) (i : Nat) (x : α),b[i]? = some x → i < b.length → step rec (mk i) = if q x then some (out (some i)) else rec (mk (i + 1)))
  (hend : ∀ rec : A → Option R,step rec (mk b.length) = some (out none)) : loopN step FUEL (mk 0) = some (out (zq657 q b)) := by
 have := zq1087 (step := step) mk b.length (fun i => some (out ((zq657 q (b.drop i)).map (· + i)))) (fun rec i hi hr => ?_) (fun rec => ?_) FUEL 0 (Nat.zero_le _) (zq703 (by omega))
 ·rw [List.drop_zero,show (fun x => x + 0) = (id : Nat → Nat) from rfl,Option.map_id] at this
  exact this
 ·obtain ⟨e,he⟩ : ∃ e,b[i]? = some e := ⟨_,zc0 hi⟩
  rw [h rec i e he hi,zq659 he]
  cases q e
  ·rw [if_neg (by simp),if_neg (by simp),hr]
  ·rw [if_pos rfl,if_pos rfl]
 ·rw [hend,zc18 (zc47 _)]
  rfl
theorem zq330 {step : (A → Option R) → A → Option R} (n pos : Nat) (hp : pos ≤ n) (hn : n < 9223372036854775808) (mk : Nat → Nat → A) (out : R)
  (h : ∀ (rec : A → Option R) (i j : Nat),i < j → i ≤ pos → pos ≤ j → j ≤ n → step rec (mk i j) = if (i + j) / 2 < pos then rec (mk ((i + j) / 2 + 1) j) else rec (mk i ((i + j) / 2)))
  (hend : ∀ rec : A → Option R,step rec (mk pos pos) = some out) : loopN step FUEL (mk 0 n) = some out := by
 have key : ∀ (N i j : Nat),j - i < N → i ≤ pos → pos ≤ j → j ≤ n → loopN step N (mk i j) = some out := by
  intro N
  induction N with
  | zero => intro i j h; omega
  | succ N ih =>
   intro i j hN h1 h2 h3
   rw [zq1083]
   by_cases hij : i < j
   ·rw [h _ i j hij h1 h2 h3]
    by_cases hh : (i + j) / 2 < pos
    ·rw [if_pos hh]; exact ih _ _ (by omega) (by omega) h2 h3
    ·rw [if_neg hh]; exact ih _ _ (by omega) h1 (by omega) (by omega)
   ·have : i = pos := by omega
    have : j = pos := by omega
    subst i j
    exact hend _
 exact key FUEL 0 n (zq703 (by omega)) (Nat.zero_le _) hp (zc47 _)
end
theorem zq1272 {α : Type} (ls : List (List α)) : padL ls.length ls = ls := by simp [padL]
theorem zq1273 {α : Type} {ls : List (List α)} {n : Nat} (h : ls.length = n) : padL n ls = ls := by subst h; exact zq1272 ls
theorem zq707 {α : Type} (ls : List (List α)) (i : Nat) : getL ls (i : Int) = ls.getD i [] := by
 unfold getL
 rw [if_pos (by omega)]
 rfl
def pfIn (l : List Pf) : Prop := ∀ p ∈ l,p.In ∧ chkP p = 0
def zq1289 (ps : List Pf) (a : Ad) : Option Nat := zq657 (fun p => holds p a) ps
theorem zq1336 {p q : Pf} (hp : p.In) (hq : q.In) (cp : chkP p = 0) (cq : chkP q = 0) : zq1338 p q = some (over p q || over q p,()) := by
 unfold zq1338
 rw [zq1348 cp hq,zq332,zq1348 cq hp]
 cases over p q <;> rfl
theorem zq1732 {ps : List Pf} (hp : pfIn ps) (hlen : ps.length ≤ 1048576) (ks : List (List Ad)) (ls : List Ls) (now : Int) {a : Ad} (ha : a.In) : zq1740 (ps,ks) ls now a = some (idxI (zq1289 ps a),()) := by
 unfold zq1740
 have := zq750 (step := zq1734) ps (fun p => holds p a) (fun i => (((),(),(lenL ps,()),((i : Int),()),()),(ks,ps,ls,(now,()),(a,()),())))
  (fun o => match o with | some i => Sum.inl ((((i : Int),()),()),(ks,ps,ls,(now,()),(a,()),())) | none => Sum.inr ((),(ks,ps,ls,(now,()),(a,()),()))) (by omega) (fun rec i x hx hi => ?_) (fun rec => ?_)
 ·rw [show ((0 : Nat) : Int) = 0 from rfl] at this
  simp only
  rw [this,zq332]
  unfold zq1289
  cases zq657 (fun p => holds p a) ps <;> rfl
 ·obtain ⟨h1,h2⟩ := hp x (zc5 hx)
  obtain ⟨b1,b2⟩ := zq401 h2
  simp only [zq1734]
  rw [decide_eq_true (show (i : Int) < lenL ps by unfold lenL; omega),zq358,zq1463 (zq753 (by omega) (by unfold lenL; omega)),zq709 hx,zq332,zq1728,zq1324 b1 b2 ha,zq332,zq332]
  cases holds x a
  ·rw [show ((i : Int) + 1) = ((i + 1 : Nat) : Int) by omega,zq356,zq1463 (zq747 (by omega) (by omega)),if_neg (by simp)]
  ·rw [zq358,if_pos rfl]
 ·simp only [zq1734]
  rw [decide_eq_false (show ¬ (ps.length : Int) < lenL ps by unfold lenL; omega),zq356]
def meets (p q : Pf) : Bool := over p q || over q p
def zq1293 : List Pf → List (List Ad) → Int
 | [],_ => 0
 | p :: r,ks => if zq403 p (ks.headD []) ≠ 0 then zq403 p (ks.headD []) else zq1293 r ks.tail
def adjOk : List Pf → Bool
 | p :: q :: r => decide (ordP p q < 0) && (!meets p q && adjOk (q :: r))
 | _ => true
def stF' (ps : List Pf) (now : Int) : List Ls → List Ls → Int
 | _,[] => 0
 | bf,x :: r => if (zq1289 ps x.ad).isNone = true then 5 else if bf.any (whoP x.who) = true then 6 else if x.upto < now then 4 else stF' ps now (bf ++ [x]) r
def chkS (ps : List Pf) (ks : List (List Ad)) (ls : List Ls) (now : Int) : Int :=
 if ps.length > 3 then 2 else if zq1293 ps ks ≠ 0 then zq1293 ps ks else if adjOk ps = false then 4 else if betw now 0 9999 = false then 3
 else if allC ls now ≠ 0 then allC ls now else stF' ps now [] ls
theorem zq1294 : ∀ {ps : List Pf} {ks : List (List Ad)},zq1293 ps ks = 0 → ∀ (i : Nat) (p : Pf),ps[i]? = some p → zq403 p (ks.getD i []) = 0
 | [],_,_,i,p,h => by simp at h
 | q :: r,ks,h,i,p,hp => by
  unfold zq1293 at h
  by_cases hc : zq403 q (ks.headD []) = 0
  ·rw [if_neg (fun h => h hc)] at h
   match i with
   | 0 =>
    simp only [zc13,zc2] at hp
    subst hp
    cases ks <;> exact hc
   | i + 1 =>
    simp only [zc35] at hp
    have := zq1294 h i p hp
    cases ks <;> simpa using this
  ·rw [if_pos hc] at h; exact absurd h hc
end Go.Ma
namespace Go.Ma
open Go
def kV (v : Bool) : Int := if v then 1 else 0
theorem zq1239 (a b : Ad) : (ordA a b < 0 ↔ kV a.v6 < kV b.v6 ∨ (kV a.v6 = kV b.v6 ∧ (a.hi < b.hi ∨ (a.hi = b.hi ∧ a.lo < b.lo)))) ∧ (ordA a b = 0 ↔ kV a.v6 = kV b.v6 ∧ a.hi = b.hi ∧ a.lo = b.lo) := by
 unfold ordA ordI kV
 cases a.v6 <;> cases b.v6 <;> simp <;> (by_cases h1 : a.hi = b.hi <;> simp [h1] <;> constructor <;> (repeat' split) <;> omega)
theorem zq1242 (p q : Pf) : ordP p q < 0 ↔ kV p.ad.v6 < kV q.ad.v6 ∨ (kV p.ad.v6 = kV q.ad.v6 ∧ (p.ad.hi < q.ad.hi ∨ (p.ad.hi = q.ad.hi ∧ (p.ad.lo < q.ad.lo ∨ (p.ad.lo = q.ad.lo ∧ p.bits < q.bits))))) := by
 obtain ⟨h1,h2⟩ := zq1239 p.ad q.ad
 unfold ordP
 split <;> omega
theorem zq796 {v w : Bool} (h : kV v = kV w) : v = w := by cases v <;> cases w <;> first | rfl | (exact absurd h (by decide))
theorem zq1245 {p q r : Pf} (h1 : ordP p q < 0) (h2 : ordP q r < 0) : ordP p r < 0 := by
 rw [zq1242] at h1 h2 ⊢
 omega
theorem zq1244 (p : Pf) : ordP p p = 0 := by
 have h := (zq1239 p.ad p.ad).2.2 ⟨rfl,rfl,rfl⟩
 unfold ordP
 rw [if_neg (fun h' => h' h)]
 omega
end Go.Ma
namespace Go.Ma
open Go
theorem zq1243 {p q : Pf} (hp : p.In) (hq : q.In) (h : ordP p q < 0) : rank p.ad ≤ rank q.ad := by
 obtain ⟨h1,h2⟩ := zq1246 hp.1 hq.1
 unfold ordP at h
 split at h
 ·have := h1.1 h; omega
 ·rename_i h3
  have := h2.1 (zc49.1 h3); omega
theorem zq1414 {a b : Ad} (ha : a.In) (hb : b.In) (h : rank a ≤ rank b) (hv : a.v6 = b.v6) : a.num ≤ b.num := by
 unfold rank at h
 rw [hv] at h
 omega
theorem zq1415 {a b c : Ad} (ha : a.In) (hb : b.In) (hc : c.In) (h : rank a ≤ rank b) (h2 : rank b ≤ rank c) (hv : a.v6 = c.v6) : a.v6 = b.v6 ∧ b.v6 = c.v6 := by
 have h3 := zq1160 ha
 have h4 := zq1160 hb
 have h5 := zq1160 hc
 unfold rank at h h2
 rw [← hv] at h2 ⊢
 cases hav : a.v6 <;> cases hbv : b.v6 <;> simp only [hav,hbv,if_true,zc16,if_false] at h h2 <;> first | exact ⟨rfl,rfl⟩ | (exfalso; omega)
theorem zq1110 (p q : Pf) : meets p q = meets q p := by unfold meets; exact Bool.or_comm _ _
theorem zq1112 {p q : Pf} (hp : p.In) (hq : q.In) (cp : chkP p = 0) (cq : chkP q = 0) (hv : p.ad.v6 = q.ad.v6) (h1 : q.ad.num ≤ p.ad.num + (2 ^ free p - 1)) (h2 : p.ad.num ≤ q.ad.num + (2 ^ free q - 1)) : meets p q = true := by
 unfold meets
 by_cases hb : p.bits ≤ q.bits
 ·rw [zq298 hp hq cp cq hv h1 h2 hb]; rfl
 ·rw [zq298 hq hp cq cp hv.symm h2 h1 (by omega)]; simp
theorem zq1111 {p q : Pf} (hp : p.In) (hq : q.In) (cp : chkP p = 0) (cq : chkP q = 0) : meets p q = true ↔ p.ad.v6 = q.ad.v6 ∧ q.ad.num ≤ p.ad.num + (2 ^ free p - 1) ∧ p.ad.num ≤ q.ad.num + (2 ^ free q - 1) := by
 constructor
 ·intro h
  unfold meets at h
  rw [Bool.or_eq_true] at h
  have e1 := Nat.two_pow_pos (free p)
  have e2 := Nat.two_pow_pos (free q)
  rcases h with h | h
  ·obtain ⟨h1,h2,h3⟩ := (zq745 hp cp hq.1).1 (zq1254.1 h).2
   exact ⟨h1,by omega,by omega⟩
  ·obtain ⟨h1,h2,h3⟩ := (zq745 hq cq hp.1).1 (zq1254.1 h).2
   exact ⟨h1.symm,by omega,by omega⟩
 ·rintro ⟨h1,h2,h3⟩
  exact zq1112 hp hq cp cq h1 h2 h3
theorem zq1109 {p q r : Pf} (hp : p.In) (hq : q.In) (hr : r.In) (cp : chkP p = 0) (cq : chkP q = 0) (cr : chkP r = 0) (h1 : ordP p q < 0) (h2 : ordP q r < 0) (h : meets p r = true) : meets p q = true := by
 obtain ⟨m1,m2,m3⟩ := (zq1111 hp hr cp cr).1 h
 have r1 := zq1243 hp hq h1
 have r2 := zq1243 hq hr h2
 obtain ⟨v1,v2⟩ := zq1415 hp.1 hq.1 hr.1 r1 r2 m1
 have n1 := zq1414 hp.1 hq.1 r1 v1
 have n2 := zq1414 hq.1 hr.1 r2 v2
 exact zq1112 hp hq cp cq v1 (by omega) (by omega)
def zq295 (p q : Pf) : Prop := ordP p q < 0 ∧ meets p q = false
theorem zq266 : ∀ {ps : List Pf},pfIn ps → (adjOk ps = true ↔ ps.Pairwise zq295)
 | [],_ => by simp [adjOk]
 | [p],_ => by simp [adjOk]
 | p :: q :: r,h => by
  have h' : pfIn (q :: r) := fun x hx => h x (List.mem_cons_of_mem _ hx)
  have ih := zq266 h'
  have hp := h p List.mem_cons_self
  have hq := h q (List.mem_cons_of_mem _ List.mem_cons_self)
  simp only [adjOk,zc4,decide_eq_true_eq,Bool.not_eq_true']
  rw [ih]
  constructor
  ·rintro ⟨h1,h2,h3⟩
   refine zc45.2 ⟨fun x hx => ?_,h3⟩
   rcases zc28.1 hx with rfl | hx
   ·exact ⟨h1,h2⟩
   ·have hqx := (zc45.1 h3).1 x hx
    have hxi := h' x (List.mem_cons_of_mem _ hx)
    refine ⟨zq1245 h1 hqx.1,?_⟩
    cases hm : meets p x
    ·rfl
    ·rw [zq1109 hp.1 hq.1 hxi.1 hp.2 hq.2 hxi.2 h1 hqx.1 hm] at h2
     cases h2
  ·intro hh
   obtain ⟨h1,h2⟩ := zc45.1 hh
   have := h1 q List.mem_cons_self
   exact ⟨this.1,this.2,h2⟩
def kpIn (ks : List (List Ad)) : Prop := ∀ k ∈ ks,adIn k
theorem kp_at {ks : List (List Ad)} (h : kpIn ks) (i : Nat) : adIn (ks.getD i []) := by
 rw [List.getD_eq_getElem?_getD]
 cases he : ks[i]? with
 | none => intro a ha; cases ha
 | some k => exact h k (zc5 he)
end Go.Ma
namespace Go.Ma
open Go
theorem zq748 (o : Option Nat) : decide (idxI o < 0) = o.isNone := by
 cases o with
 | none => rfl
 | some k =>
  have : ¬ idxI (some k) < 0 := by show ¬ (k : Int) < 0; omega
  simp [this]
theorem zq1278 {ps : List Pf} (hp : ∀ p ∈ ps,p.In) {ks : List (List Ad)} (h : zq1293 ps ks = 0) : pfIn ps := fun p hm => by
 obtain ⟨i,hi⟩ := List.mem_iff_getElem?.1 hm
 exact ⟨hp p hm,(zq405 (zq1294 h i p hi)).1⟩
end Go.Ma
namespace Go.Ma
open Go
theorem zq1295 : ∀ (ps : List Pf) (ks : List (List Ad)),zq1293 ps ks = 0 ↔ ∀ (i : Nat) (p : Pf),ps[i]? = some p → zq403 p (ks.getD i []) = 0 := fun ps ks => by
 refine ⟨zq1294,?_⟩
 induction ps generalizing ks with
 | nil => intro _; rfl
 | cons q r ih =>
  intro h
  have h0 := h 0 q rfl
  have h0' : zq403 q (ks.headD []) = 0 := by cases ks <;> exact h0
  rw [zq1293,if_neg (fun hh => hh h0')]
  refine ih _ fun i p hp => ?_
  have := h (i + 1) p hp
  cases ks <;> simpa using this
theorem zq1651 (ps : List Pf) (now : Int) : ∀ (m bf : List Ls),stF' ps now bf m = 0 ↔ (∀ x ∈ m,(zq1289 ps x.ad).isSome = true) ∧ (∀ x ∈ m,now ≤ x.upto) ∧ (∀ y ∈ bf,∀ x ∈ m,y.who ≠ x.who) ∧ m.Pairwise fun x y => x.who ≠ y.who
 | [],bf => by simp [stF']
 | x :: r,bf => by
  unfold stF'
  by_cases h1 : (zq1289 ps x.ad).isSome = true
  ·rw [if_neg (by cases hq : zq1289 ps x.ad <;> simp_all)]
   by_cases h2 : bf.any (whoP x.who) = true
   ·rw [if_pos h2]
    constructor
    ·intro h; exact absurd h (by decide)
    ·rintro ⟨_,_,h3,_⟩
     obtain ⟨y,hy,hq⟩ := List.any_eq_true.1 h2
     exact absurd (by simpa [whoP] using hq) (h3 y hy x (by simp))
   ·rw [if_neg h2]
    have h2' : ∀ y ∈ bf,y.who ≠ x.who := fun y hy he => h2 (List.any_eq_true.2 ⟨y,hy,by simp [whoP,he]⟩)
    by_cases hu : x.upto < now
    ·rw [if_pos hu]
     constructor
     ·intro h; exact absurd h (by decide)
     ·rintro ⟨_,h3,_⟩
      have := h3 x (by simp)
      omega
    rw [if_neg hu,zq1651 ps now r (bf ++ [x])]
    constructor
    ·rintro ⟨a1,a0,a2,a3⟩
     refine ⟨fun z hz => ?_,fun z hz => ?_,fun y hy z hz => ?_,zc45.2 ⟨fun z hz => a2 x (by simp) z hz,a3⟩⟩
     ·rcases zc28.1 hz with rfl | hz
      ·exact h1
      ·exact a1 z hz
     ·rcases zc28.1 hz with rfl | hz
      ·omega
      ·exact a0 z hz
     ·rcases zc28.1 hz with rfl | hz
      ·exact h2' y hy
      ·exact a2 y (by simp [hy]) z hz
    ·rintro ⟨a1,a0,a2,a3⟩
     obtain ⟨b1,b2⟩ := zc45.1 a3
     refine ⟨fun z hz => a1 z (by simp [hz]),fun z hz => a0 z (by simp [hz]),fun y hy z hz => ?_,b2⟩
     rcases zc36.1 hy with hy | hy
     ·exact a2 y hy z (by simp [hz])
     ·have : y = x := by simpa using hy
      subst this
      exact b1 z hz
  ·rw [if_pos (by simpa using h1)]
   constructor
   ·intro h; exact absurd h (by decide)
   ·rintro ⟨a1,_⟩; exact absurd (a1 x (by simp)) h1
theorem zq1290 {ps : List Pf} {a : Ad} : (zq1289 ps a).isSome = true ↔ ∃ p ∈ ps,holds p a = true := by
 unfold zq1289
 rw [zq658,List.any_eq_true]
structure StOk (ps : List Pf) (ks : List (List Ad)) (ls : List Ls) (now : Int) : Prop where
 pin : pfIn ps
 kin : kpIn ks
 lin : lsIn ls
 klen : ks.length = ps.length
 plen : ps.length ≤ 3
 pool : ∀ (i : Nat) (p : Pf),ps[i]? = some p → zq403 p (ks.getD i []) = 0
 pair : ps.Pairwise zq295
 time : betw now 0 9999 = true
 all : allC ls now = 0
 has : ∀ x ∈ ls,∃ p ∈ ps,holds p x.ad = true
 upto : ∀ x ∈ ls,now ≤ x.upto
 who : ls.Pairwise fun x y => x.who ≠ y.who
theorem zq1652 {ps : List Pf} (hp : ∀ p ∈ ps,p.In) {ks : List (List Ad)} (hk : kpIn ks) {ls : List Ls} (hl : lsIn ls) (hlen : ks.length = ps.length) {now : Int} (h : chkS ps ks ls now = 0) : StOk ps ks ls now := by
 unfold chkS at h
 split at h
 ·cases h
 rename_i h3
 split at h
 ·rename_i h4; exact absurd h h4
 rename_i h4
 have h4 := zc49.1 h4
 split at h
 ·cases h
 rename_i ha
 split at h
 ·cases h
 rename_i hb
 split at h
 ·rename_i hc; exact absurd h hc
 rename_i hc
 have hpf := zq1278 hp h4
 obtain ⟨s1,s2,_,s3⟩ := (zq1651 ps now ls []).1 h
 exact ⟨hpf,hk,hl,hlen,by omega,(zq1295 ps ks).1 h4,(zq266 hpf).1 (by simpa using ha),by simpa using hb,zc49.1 hc,fun x hx => zq1290.1 (s1 x hx),s2,s3⟩
abbrev StV := (List Pf × List (List Ad)) × List Ls × Int × Unit
abbrev DoV := StV × Ad × Int × Unit
def noSt : StV := ((([] : List Pf),([] : List (List Ad))),([] : List Ls),0,())
def noAd : Ad := ⟨false,0,0⟩
def errS (e : Int) : DoV := (noSt,noAd,e,())
def okS (ps : List Pf) (ks : List (List Ad)) (ls : List Ls) (now : Int) (a : Ad) : DoV := (((ps,ks),ls,now,()),a,0,())
def posP (p : Pf) (ps : List Pf) : Nat := (ps.takeWhile fun y => decide (ordP y p < 0)).length
def posA (a : Ad) (kp : List Ad) : Nat := (kp.takeWhile fun y => decide (ordA y a < 0)).length
def putAt {α : Type} (l : List α) (n : Nat) (x : α) : List α := l.take n ++ x :: l.drop n
def zq547 (ps : List Pf) (ks : List (List Ad)) (ls : List Ls) (now : Int) (p : Pf) : DoV :=
 if ps.any (fun q => meets q p) = true then errS 6 else if ps.length = 3 then errS 2 else okS (putAt ps (posP p ps) p) (putAt ks (posP p ps) []) ls now noAd
def zq543 (ps : List Pf) (ks : List (List Ad)) (ls : List Ls) (now : Int) (a : Ad) : DoV :=
 match zq1289 ps a with
 | none => errS 5
 | some i => if (ks.getD i []).any (fun x => decide (a = x)) = true then errS 6 else if (ks.getD i []).length = 6 then errS 2 else okS ps (ks.set i (putAt (ks.getD i []) (posA a (ks.getD i [])) a)) ls now noAd
def ownL (p : Pf) (ls : List Ls) : List Ls := ls.filter fun x => holds p x.ad
def othL (p : Pf) (ls : List Ls) : List Ls := ls.filter fun x => !holds p x.ad
def awayB (p : Pf) (ls : List Ls) (who : ByteArray) : Bool := match zq657 (whoP who) ls with | some i => (match ls[i]? with | some x => !holds p x.ad | none => false) | none => false
def zq728 (p : Pf) (kp : List Ad) (ls : List Ls) (who : ByteArray) (now ttl : Int) : List Ls × Ad × Bool × Unit := rawOf p kp (live (ownL p ls) now) who (now + ttl)
def zq542 (ps : List Pf) (ks : List (List Ad)) (ls : List Ls) (now : Int) (who : ByteArray) (k : Int) (ttl : Int) : DoV :=
 match ps[k.toNat]? with
 | none => errS 5
 | some p => if awayB p ls who = true then errS 6 else if (zq728 p (ks.getD k.toNat []) ls who now ttl).2.2.1 = false then errS 8
  else if (zq728 p (ks.getD k.toNat []) ls who now ttl).1.length + (othL p ls).length > 20 then errS 2
  else okS ps ks (sortL ((zq728 p (ks.getD k.toNat []) ls who now ttl).1 ++ othL p ls)) now (zq728 p (ks.getD k.toNat []) ls who now ttl).2.1
def zq541 (ps : List Pf) (ks : List (List Ad)) (ls : List Ls) (now : Int) (who : ByteArray) : DoV :=
 match zq657 (whoP who) ls with
 | none => errS 5
 | some i => (match ls[i]? with | some x => okS ps ks (ls.take i ++ ls.drop (i + 1)) now x.ad | none => errS 5)
def zq548 (ps : List Pf) (ks : List (List Ad)) (ls : List Ls) (now n : Int) : DoV := if n < now then errS 4 else okS ps ks (live ls n) n noAd
def doOf (ps : List Pf) (ks : List (List Ad)) (ls : List Ls) (now : Int) (o : Oq) : DoV :=
 if formO o ≠ 0 then errS (formO o)
 else if o.kind = 1 then zq547 ps ks ls now o.pf
 else if o.kind = 2 then zq543 ps ks ls now o.ad
 else if o.kind = 3 then zq542 ps ks ls now o.who o.of_ o.n
 else if o.kind = 4 then zq541 ps ks ls now o.who
 else zq548 ps ks ls now o.n
theorem zq695 {o : Oq} (h : formO o = 0) (hk : o.kind = 1) : chkP o.pf = 0 ∧ ((wid o.pf.ad.v6 : Nat) : Int) - o.pf.bits ≤ 4 := by
 unfold formO at h
 split at h
 ·cases h
 split at h
 ·cases h
 split at h
 ·rename_i h1; exact absurd h h1
 rename_i h1
 split at h
 ·rename_i h2; exact ⟨zc49.1 h1,h2⟩
 ·cases h
theorem zq693 {o : Oq} (h : formO o = 0) (hk : o.kind = 2) : chkA o.ad = 0 := by
 unfold formO at h
 split at h
 ·cases h
 split at h
 ·cases h
 rwa [if_neg (by omega)] at h
theorem zq694 {o : Oq} (h : formO o = 0) : 1 ≤ o.kind ∧ o.kind ≤ 5 := by
 unfold formO at h
 split at h
 ·cases h
 rename_i hk
 exact zq329.1 (by simpa using hk)
theorem zq697 {o : Oq} (h : formO o = 0) (hk : o.kind = 3 ∨ o.kind = 4) : whoOk o.who = true := by
 unfold formO at h
 split at h
 ·cases h
 split at h
 ·cases h
 rw [if_neg (by omega),if_neg (by omega)] at h
 split at h
 ·cases h
 rename_i h1
 have : o.kind < 5 := by omega
 cases hw : whoOk o.who
 ·exact absurd ⟨this,hw⟩ h1
 ·rfl
theorem zq692 {o : Oq} (h : formO o = 0) (hk : o.kind = 3) : betw o.of_ 0 2 = true ∧ betw o.n 1 500 = true := by
 unfold formO at h
 split at h
 ·cases h
 split at h
 ·cases h
 rw [if_neg (by omega),if_neg (by omega)] at h
 split at h
 ·cases h
 split at h
 ·cases h
 rename_i h2
 cases h1 : betw o.of_ 0 2
 ·exact absurd ⟨hk,.inl h1⟩ h2
 ·cases h3 : betw o.n 1 500
  ·exact absurd ⟨hk,.inr h3⟩ h2
  ·exact ⟨rfl,rfl⟩
theorem zq696 {o : Oq} (h : formO o = 0) (hk : o.kind = 5) : betw o.n 0 9999 = true := by
 unfold formO at h
 split at h
 ·cases h
 split at h
 ·cases h
 rw [if_neg (by omega),if_neg (by omega)] at h
 split at h
 ·cases h
 split at h
 ·cases h
 split at h
 ·cases h
 rename_i h2
 cases h1 : betw o.n 0 9999
 ·exact absurd ⟨hk,h1⟩ h2
 ·rfl
theorem zq1781 {α : Type} {q : α → Bool} : ∀ {l : List α},(l.Pairwise fun x y => q y = true → q x = true) → ∀ {i : Nat} {x : α},l[i]? = some x → (q x = true ↔ i < (l.takeWhile q).length)
 | [],_,i,x,h => by simp at h
 | y :: r,hp,i,x,h => by
  obtain ⟨h1,h2⟩ := zc45.1 hp
  rw [List.takeWhile_cons]
  cases hq : q y
  ·simp only [zc16,if_false,zc32,Nat.not_lt_zero,iff_false,Bool.not_eq_true]
   match i with
   | 0 =>
    simp only [zc13,zc2] at h
    rw [← h]; exact hq
   | i + 1 =>
    rw [zc35] at h
    cases hx : q x
    ·rfl
    ·rw [h1 x (zc5 h) hx] at hq; cases hq
  ·simp only [if_true,zc21]
   match i with
   | 0 =>
    simp only [zc13,zc2] at h
    rw [← h,hq]; simp
   | i + 1 =>
    rw [zc35] at h
    rw [zq1781 h2 h]; omega
theorem tw_le {α : Type} (q : α → Bool) (l : List α) : (l.takeWhile q).length ≤ l.length := (List.takeWhile_sublist q).length_le
theorem zq1300 {ps : List Pf} (h : ps.Pairwise zq295) (p : Pf) {i : Nat} {x : Pf} (hx : ps[i]? = some x) : ordP x p < 0 ↔ i < posP p ps := by
 have := zq1781 (q := fun y => decide (ordP y p < 0)) (l := ps) (h.imp fun {a b} hab hb => by
  simp only [decide_eq_true_eq] at hb ⊢
  exact zq1245 hab.1 hb) hx
 simpa [posP] using this
theorem zq1301 (p : Pf) (ps : List Pf) : posP p ps ≤ ps.length := tw_le _ _
theorem zq1240 {a b c : Ad} (h1 : ordA a b < 0) (h2 : ordA b c < 0) : ordA a c < 0 := by
 have := (zq1239 a b).1.1 h1
 have := (zq1239 b c).1.1 h2
 exact (zq1239 a c).1.2 (by omega)
theorem zq1297 {kp : List Ad} (h : kp.Pairwise fun a b => ordA a b < 0) (p : Ad) {i : Nat} {x : Ad} (hx : kp[i]? = some x) : ordA x p < 0 ↔ i < posA p kp := by
 have := zq1781 (q := fun y => decide (ordA y p < 0)) (l := kp) (h.imp fun {a b} hab hb => by
  simp only [decide_eq_true_eq] at hb ⊢
  exact zq1240 hab hb) hx
 simpa [posA] using this
theorem zq1298 (p : Ad) (kp : List Ad) : posA p kp ≤ kp.length := tw_le _ _
theorem zq805 {p : Pf} : ∀ (kp : List Ad) (o : Option Ad),keptF p o kp = 0 ↔ (∀ a ∈ kp,chkA a = 0 ∧ holds p a = true) ∧ (kp.Pairwise fun a b => ordA a b < 0) ∧ ∀ b,o = some b → ∀ a ∈ kp,ordA b a < 0
 | [],o => by simp [keptF]
 | x :: r,o => by
  rw [keptF]
  by_cases h1 : chkA x = 0
  rotate_left
  ·rw [if_pos h1]
   exact ⟨fun h => absurd h h1,fun h => absurd (h.1 x (by simp)).1 h1⟩
  rw [if_neg (fun h => h h1)]
  cases h2 : holds p x
  ·rw [if_pos rfl]
   refine ⟨fun h => (by cases h),fun h => ?_⟩
   rw [(h.1 x (by simp)).2] at h2; cases h2
  rw [if_neg (by simp)]
  by_cases h3 : backB o x = true
  ·rw [if_pos h3]
   refine ⟨fun h => (by cases h),fun h => ?_⟩
   cases o with
   | none => cases h3
   | some b =>
    have := h.2.2 b rfl x (by simp)
    simp only [backB,decide_eq_true_eq] at h3
    omega
  ·rw [if_neg h3,zq805 r (some x)]
   have h4 : ∀ b,o = some b → ordA b x < 0 := fun b hb => by
    subst hb
    simp only [backB,decide_eq_true_eq] at h3
    omega
   constructor
   ·rintro ⟨g1,g2,g3⟩
    refine ⟨fun a ha => ?_,zc45.2 ⟨fun a ha => g3 x rfl a ha,g2⟩,fun b hb a ha => ?_⟩
    ·rcases zc28.1 ha with rfl | ha
     ·exact ⟨h1,h2⟩
     ·exact g1 a ha
    ·rcases zc28.1 ha with rfl | ha
     ·exact h4 b hb
     ·exact zq1240 (h4 b hb) (g3 x rfl a ha)
   ·rintro ⟨g1,g2,g3⟩
    obtain ⟨k1,k2⟩ := zc45.1 g2
    exact ⟨fun a ha => g1 a (List.mem_cons_of_mem _ ha),k2,fun b hb a ha => by injection hb with hb; subst hb; exact k1 a ha⟩
theorem zq404 {p : Pf} {kp : List Ad} : zq403 p kp = 0 ↔ chkP p = 0 ∧ ((wid p.ad.v6 : Nat) : Int) - p.bits ≤ 4 ∧ kp.length ≤ 6 ∧ (∀ a ∈ kp,chkA a = 0 ∧ holds p a = true) ∧ kp.Pairwise fun a b => ordA a b < 0 := by
 unfold zq403
 by_cases h1 : chkP p = 0
 rotate_left
 ·rw [if_pos h1]
  exact ⟨fun h => absurd h h1,fun h => absurd h.1 h1⟩
 rw [if_neg (fun h => h h1)]
 by_cases h2 : ((wid p.ad.v6 : Nat) : Int) - p.bits ≤ 4 ∧ kp.length ≤ 6
 ·rw [if_neg (by omega),zq805]
  constructor
  ·rintro ⟨g1,g2,_⟩; exact ⟨h1,h2.1,h2.2,g1,g2⟩
  ·rintro ⟨_,_,_,g1,g2⟩; exact ⟨g1,g2,fun b hb => by cases hb⟩
 ·rw [if_pos (by omega)]
  exact ⟨fun h => (by cases h),fun h => absurd ⟨h.2.1,h.2.2.1⟩ h2⟩
end Go.Ma
