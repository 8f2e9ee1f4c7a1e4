/-
  Parts: Pm Lc Ld Le Lg Lh.
-/
import Derived.Test.YtpnpfgihgfbipaaGreatZs3
set_option linter.unusedVariables false
set_option linter.unusedSimpArgs false
open List renaming getElem?_eq_getElem → zc0,getElem?_eq_some_iff → zc1,mem_of_getElem? → zc5,getElem?_cons_zero → zc13,drop_of_length_le → zc18,getElem?_eq_none → zc22,pairwise_cons → zc44
open Option.some renaming injEq → zc2
open Bool renaming and_eq_true → zc4,not_true → zc10,false_eq_true → zc16,not_false → zc19
open Nat renaming le_refl → zc46
open Decidable renaming not_not → zc48
noncomputable section
namespace Go.Ma
open Go
abbrev state_Check_L4_A:=((Unit × Unit × (Int × Unit) × (Int × Unit) × Unit) × (List (List Ad) × List Pf × List Ls × (Int × Unit) × Unit))
abbrev state_Check_L4_B:=Option ((((Int × Unit) × Unit) × (List (List Ad) × List Pf × List Ls × Unit)) ⊕ ((Unit × Unit) × (List (List Ad) × List Pf × List Ls × (Int × Unit) × Unit)))
def zq1557 (rec : state_Check_L4_A → state_Check_L4_B) (x : state_Check_L4_A) : state_Check_L4_B :=
 let v0:=x.1.2.2.1.1
 let v1:=x.1.2.2.2.1.1
 let v2:=x.2.1
 let v3:=x.2.2.1
 let v4:=x.2.2.2.1
 let v5:=x.2.2.2.2.1.1
 br (decide (v1 < v0))
 (req (zq697 v1 (lenL v3)) <|
 (geti v3 v1).bind fun p1 =>
 (zq938 p1 (getL v2 v1)).bind fun y2 =>
 br (!decide (y2.1 = 0))
 (some (Sum.inl (((y2.1,()),()),(v2,v3,v4,()))))
 (req (i64ok (v1 + 1)) <|
 rec (((),(),(v0,()),(v1 + 1,()),()),(v2,v3,v4,(v5,()),()))))
 (some (Sum.inr ((((),()),(v2,v3,v4,(v5,()),())))))
abbrev state_Check_L11_A:=((Unit × (Int × Unit) × Unit) × (List (List Ad) × List Pf × List Ls × (Int × Unit) × Unit))
abbrev state_Check_L11_B:=Option ((((Int × Unit) × Unit) × (List (List Ad) × List Pf × List Ls × Unit)) ⊕ ((Unit × Unit) × (List (List Ad) × List Pf × List Ls × (Int × Unit) × Unit)))
def zq1551 (rec : state_Check_L11_A → state_Check_L11_B) (x : state_Check_L11_A) : state_Check_L11_B :=
 let v0:=x.1.2.1.1
 let v1:=x.2.1
 let v2:=x.2.2.1
 let v3:=x.2.2.2.1
 let v4:=x.2.2.2.2.1.1
 br (decide (v0 < lenL v2))
 (req (i64ok (v0 - 1)) <|
 req (zq697 (v0 - 1) (lenL v2)) <|
 req (zq697 (v0 - 1) (lenL v2)) <|
 (geti v2 (v0 - 1)).bind fun p1 =>
 req (zq697 v0 (lenL v2)) <|
 req (zq697 v0 (lenL v2)) <|
 (geti v2 v0).bind fun p2 =>
 (zq1280 p1 p2).bind fun y3 =>
 (br (decide (y3.1 ≥ 0))
 (some true)
 (req (i64ok (v0 - 1)) <|
 req (zq697 (v0 - 1) (lenL v2)) <|
 req (zq697 (v0 - 1) (lenL v2)) <|
 (geti v2 (v0 - 1)).bind fun p4 =>
 req (zq697 v0 (lenL v2)) <|
 req (zq697 v0 (lenL v2)) <|
 (geti v2 v0).bind fun p5 =>
 (zq1274 p4 p5).bind fun y6 =>
 some y6.1)).bind fun c4 =>
 br c4
 (some (Sum.inl (((4,()),()),(v1,v2,v3,()))))
 (req (i64ok (v0 + 1)) <|
 rec (((),(v0 + 1,()),()),(v1,v2,v3,(v4,()),()))))
 (some (Sum.inr ((((),()),(v1,v2,v3,(v4,()),())))))
abbrev state_Check_L21_A:=((Unit × Unit × (Int × Unit) × (Int × Unit) × Unit) × (List (List Ad) × List Pf × List Ls × (Int × Unit) × Unit))
abbrev state_Check_L21_B:=Option ((((Int × Unit) × Unit) × (List (List Ad) × List Pf × List Ls × Unit)) ⊕ (Unit × (List (List Ad) × List Pf × List Ls × Unit)))
def zq1554 (rec : state_Check_L21_A → state_Check_L21_B) (x : state_Check_L21_A) : state_Check_L21_B :=
 let v0:=x.1.2.2.1.1
 let v1:=x.1.2.2.2.1.1
 let v2:=x.2.1
 let v3:=x.2.2.1
 let v4:=x.2.2.2.1
 let v5:=x.2.2.2.2.1.1
 br (decide (v1 < v0))
 (req (zq697 v1 (lenL v4)) <|
 (geti v4 v1).bind fun p1 =>
 (zq1656 (v3,v2) v4 v5 p1.ad).bind fun y2 =>
 br (decide (y2.1 < 0))
 (some (Sum.inl (((5,()),()),(v2,v3,v4,()))))
 (req (i64ok (v1 + 1)) <|
 req ((decide (0 ≤ v1 + 1)) && (decide (v1 + 1 ≤ lenL v4))) <|
 (zq970 (subL v4 0 (v1 + 1))).bind fun y3 =>
 br y3.1
 (some (Sum.inl (((6,()),()),(v2,v3,v4,()))))
 (br (decide (p1.upto < v5))
 (some (Sum.inl (((4,()),()),(v2,v3,v4,()))))
 (req (i64ok (v1 + 1)) <|
 rec (((),(),(v0,()),(v1 + 1,()),()),(v2,v3,v4,(v5,()),()))))))
 (some (Sum.inr (((),(v2,v3,v4,())))))
def zq1565 (a0 : List Pf × List (List Ad)) (a1 : List Ls) (a2 : Int) : Option (Int × Unit) :=
 br (decide (lenL a0.1 > 3))
 (some (2,()))
 ((loopN zq1557 FUEL (((()),(()),(lenL a0.1,()),(0,()),()),(a0.2,a0.1,a1,(a2,()),()))).bind fun y1 =>
 sumC y1 (fun y2 =>
 some (y2.1.1.1,())) (fun y3 =>
 (loopN zq1551 FUEL (((()),(1,()),()),(y3.2.1,y3.2.2.1,y3.2.2.2.1,(y3.2.2.2.2.1.1,()),()))).bind fun y4 =>
 sumC y4 (fun y5 =>
 some (y5.1.1.1,())) (fun y6 =>
 (zq1662 y6.2.2.2.2.1.1 0 9999).bind fun y7 =>
 br (!y7.1)
 (some (3,()))
 ((zq879 y6.2.2.2.1 y6.2.2.2.2.1.1).bind fun y8 =>
 br (!decide (y8.1 = 0))
 (some (y8.1,()))
 ((loopN zq1554 FUEL (((()),(()),(lenL y6.2.2.2.1,()),(0,()),()),(y6.2.1,y6.2.2.1,y6.2.2.2.1,(y6.2.2.2.2.1.1,()),()))).bind fun y9 =>
 sumC y9 (fun y10 =>
 some (y10.1.1.1,())) (fun y11 =>
 some (0,())))))))
abbrev lease_Raw_slices_IndexFunc___api_Lease_api_Lease__L2_A:=((Unit × Unit × (Int × Unit) × (Int × Unit) × Unit) × (List Ad × List Ls × (Bool × Int × Int × Int × Unit) × (ByteArray × Unit) × List Ls × (Ad × Unit) × List Ls × (Bool × Int × Int × Int × Unit) × Unit))
abbrev lease_Raw_slices_IndexFunc___api_Lease_api_Lease__L2_B:=Option ((((Int × Unit) × Unit) × (List Ad × List Ls × (Bool × Int × Int × Int × Unit) × (ByteArray × Unit) × List Ls × (Ad × Unit) × List Ls × (Bool × Int × Int × Int × Unit) × Unit)) ⊕ (Unit × (List Ad × List Ls × (Bool × Int × Int × Int × Unit) × (ByteArray × Unit) × List Ls × (Ad × Unit) × List Ls × (Bool × Int × Int × Int × Unit) × Unit)))
def zq961 (rec : lease_Raw_slices_IndexFunc___api_Lease_api_Lease__L2_A → lease_Raw_slices_IndexFunc___api_Lease_api_Lease__L2_B) (x : lease_Raw_slices_IndexFunc___api_Lease_api_Lease__L2_A) : lease_Raw_slices_IndexFunc___api_Lease_api_Lease__L2_B :=
 let v0:=x.1.2.2.1.1
 let v1:=x.1.2.2.2.1.1
 let v2:=x.2.1
 let v3:=x.2.2.1
 let v4:=x.2.2.2.1.1
 let v5:=x.2.2.2.1.2.1
 let v6:=x.2.2.2.1.2.2.1
 let v7:=x.2.2.2.1.2.2.2.1
 let v8:=x.2.2.2.2.1.1
 let v9:=x.2.2.2.2.2.1
 let zz:=x.2.2.2.2.2.2
 let v10:=zz.1.1
 let v11:=zz.2.1
 let v12:=zz.2.2.1.1
 let v13:=zz.2.2.1.2.1
 let v14:=zz.2.2.1.2.2.1
 let v15:=zz.2.2.1.2.2.2.1
 br (decide (v1 < v0))
 (req (zq697 v1 (lenL v11)) <|
 (geti v11 v1).bind fun p1 =>
 (zq943 p1 v8).bind fun y2 =>
 br y2.1
 (some (Sum.inl (((v1,()),()),(v2,v3,(v4,v5,v6,v7,()),(v8,()),v9,(v10,()),v11,(v12,v13,v14,v15,()),()))))
 (req (i64ok (v1 + 1)) <|
 rec (((),(),(v0,()),(v1 + 1,()),()),(v2,v3,(v4,v5,v6,v7,()),(v8,()),v9,(v10,()),v11,(v12,v13,v14,v15,()),()))))
 (some (Sum.inr (((),(v2,v3,(v4,v5,v6,v7,()),(v8,()),v9,(v10,()),v11,(v12,v13,v14,v15,()),())))))
abbrev lease_Raw_slices_BinarySearchFunc___api_Lease_api_Lease_api_Lease__L3_A:=((Unit × Unit × Unit × (Int × Unit) × (Int × Unit) × (Int × Unit) × Unit) × (List Ad × List Ls × (Bool × Int × Int × Int × Unit) × (ByteArray × Unit) × List Ls × (Ad × Unit) × List Ls × (Bool × Int × Int × Int × Unit) × (Ad × Unit) × (Ls × Unit) × (Ls × Unit) × Unit))
abbrev lease_Raw_slices_BinarySearchFunc___api_Lease_api_Lease_api_Lease__L3_B:=Option ((Unit × Unit × Unit × (Int × Unit) × (Int × Unit) × Unit) × (List Ad × List Ls × (Bool × Int × Int × Int × Unit) × (ByteArray × Unit) × List Ls × (Ad × Unit) × List Ls × (Bool × Int × Int × Int × Unit) × (Ad × Unit) × (Ls × Unit) × (Ls × Unit) × Unit))
def zq955 (rec : lease_Raw_slices_BinarySearchFunc___api_Lease_api_Lease_api_Lease__L3_A → lease_Raw_slices_BinarySearchFunc___api_Lease_api_Lease_api_Lease__L3_B) (x : lease_Raw_slices_BinarySearchFunc___api_Lease_api_Lease_api_Lease__L3_A) : lease_Raw_slices_BinarySearchFunc___api_Lease_api_Lease_api_Lease__L3_B :=
 let v0:=x.1.2.2.2.1.1
 let v1:=x.1.2.2.2.2.1.1
 let v2:=x.1.2.2.2.2.2.1.1
 let v3:=x.2.1
 let v4:=x.2.2.1
 let v5:=x.2.2.2.1.1
 let v6:=x.2.2.2.1.2.1
 let v7:=x.2.2.2.1.2.2.1
 let v8:=x.2.2.2.1.2.2.2.1
 let v9:=x.2.2.2.2.1.1
 let v10:=x.2.2.2.2.2.1
 let v11:=x.2.2.2.2.2.2.1.1
 let zz:=x.2.2.2.2.2.2.2
 let v12:=zz.1
 let v13:=zz.2.1.1
 let v14:=zz.2.1.2.1
 let v15:=zz.2.1.2.2.1
 let v16:=zz.2.1.2.2.2.1
 let v17:=zz.2.2.1.1
 let v18:=zz.2.2.2.1.1
 let v19:=zz.2.2.2.2.1.1
 br (decide (v1 < v2))
 (req (i64ok (v1 + v2)) <|
 req (zq697 (convI .i64 (aop .shr .u64 (convI .u64 (v1 + v2)) 1)) (lenL v12)) <|
 (geti v12 (convI .i64 (aop .shr .u64 (convI .u64 (v1 + v2)) 1))).bind fun p1 =>
 (zq948 p1 v19).bind fun y2 =>
 br (decide (y2.1 < 0))
 (req (i64ok ((convI .i64 (aop .shr .u64 (convI .u64 (v1 + v2)) 1)) + 1)) <|
 rec (((),(),(),(v0,()),((convI .i64 (aop .shr .u64 (convI .u64 (v1 + v2)) 1)) + 1,()),(v2,()),()),(v3,v4,(v5,v6,v7,v8,()),(v9,()),v10,(v11,()),v12,(v13,v14,v15,v16,()),(v17,()),(v18,()),(v19,()),())))
 (rec (((),(),(),(v0,()),(v1,()),(convI .i64 (aop .shr .u64 (convI .u64 (v1 + v2)) 1),()),()),(v3,v4,(v5,v6,v7,v8,()),(v9,()),v10,(v11,()),v12,(v13,v14,v15,v16,()),(v17,()),(v18,()),(v19,()),()))))
 (some (((),(),(),(v0,()),(v1,()),()),(v3,v4,(v5,v6,v7,v8,()),(v9,()),v10,(v11,()),v12,(v13,v14,v15,v16,()),(v17,()),(v18,()),(v19,()),())))
abbrev lease_Raw_slices_BinarySearchFunc___api_Lease_api_Lease_api_Lease__1_L3_A:=((Unit × Unit × Unit × (Int × Unit) × (Int × Unit) × (Int × Unit) × Unit) × (List Ad × List Ls × (Bool × Int × Int × Int × Unit) × (ByteArray × Unit) × List Ls × (Ad × Unit) × List Ls × (Bool × Int × Int × Int × Unit) × (Ad × Unit) × (Ls × Unit) × (Ls × Unit) × Unit))
abbrev lease_Raw_slices_BinarySearchFunc___api_Lease_api_Lease_api_Lease__1_L3_B:=Option ((Unit × Unit × Unit × (Int × Unit) × (Int × Unit) × Unit) × (List Ad × List Ls × (Bool × Int × Int × Int × Unit) × (ByteArray × Unit) × List Ls × (Ad × Unit) × List Ls × (Bool × Int × Int × Int × Unit) × (Ad × Unit) × (Ls × Unit) × (Ls × Unit) × Unit))
def zq954 (rec : lease_Raw_slices_BinarySearchFunc___api_Lease_api_Lease_api_Lease__1_L3_A → lease_Raw_slices_BinarySearchFunc___api_Lease_api_Lease_api_Lease__1_L3_B) (x : lease_Raw_slices_BinarySearchFunc___api_Lease_api_Lease_api_Lease__1_L3_A) : lease_Raw_slices_BinarySearchFunc___api_Lease_api_Lease_api_Lease__1_L3_B :=
 let v0:=x.1.2.2.2.1.1
 let v1:=x.1.2.2.2.2.1.1
 let v2:=x.1.2.2.2.2.2.1.1
 let v3:=x.2.1
 let v4:=x.2.2.1
 let v5:=x.2.2.2.1.1
 let v6:=x.2.2.2.1.2.1
 let v7:=x.2.2.2.1.2.2.1
 let v8:=x.2.2.2.1.2.2.2.1
 let v9:=x.2.2.2.2.1.1
 let v10:=x.2.2.2.2.2.1
 let v11:=x.2.2.2.2.2.2.1.1
 let zz:=x.2.2.2.2.2.2.2
 let v12:=zz.1
 let v13:=zz.2.1.1
 let v14:=zz.2.1.2.1
 let v15:=zz.2.1.2.2.1
 let v16:=zz.2.1.2.2.2.1
 let v17:=zz.2.2.1.1
 let v18:=zz.2.2.2.1.1
 let v19:=zz.2.2.2.2.1.1
 br (decide (v1 < v2))
 (req (i64ok (v1 + v2)) <|
 req (zq697 (convI .i64 (aop .shr .u64 (convI .u64 (v1 + v2)) 1)) (lenL v12)) <|
 (geti v12 (convI .i64 (aop .shr .u64 (convI .u64 (v1 + v2)) 1))).bind fun p1 =>
 (zq948 p1 v19).bind fun y2 =>
 br (decide (y2.1 < 0))
 (req (i64ok ((convI .i64 (aop .shr .u64 (convI .u64 (v1 + v2)) 1)) + 1)) <|
 rec (((),(),(),(v0,()),((convI .i64 (aop .shr .u64 (convI .u64 (v1 + v2)) 1)) + 1,()),(v2,()),()),(v3,v4,(v5,v6,v7,v8,()),(v9,()),v10,(v11,()),v12,(v13,v14,v15,v16,()),(v17,()),(v18,()),(v19,()),())))
 (rec (((),(),(),(v0,()),(v1,()),(convI .i64 (aop .shr .u64 (convI .u64 (v1 + v2)) 1),()),()),(v3,v4,(v5,v6,v7,v8,()),(v9,()),v10,(v11,()),v12,(v13,v14,v15,v16,()),(v17,()),(v18,()),(v19,()),()))))
 (some (((),(),(),(v0,()),(v1,()),()),(v3,v4,(v5,v6,v7,v8,()),(v9,()),v10,(v11,()),v12,(v13,v14,v15,v16,()),(v17,()),(v18,()),(v19,()),())))
def zq967 (a0 : Pf) (a1 : List Ad) (a2 : List Ls) (a3 : ByteArray) (a4 : Int) (a5 : Int) : Option ((List Ls) × Ad × Bool × Unit) :=
 (zq923 a2 a4).bind fun y1 =>
 (loopN zq961 FUEL (((()),(()),(lenL y1.1,()),(0,()),()),(a1,a2,(a0.ad.v6,a0.ad.hi,a0.ad.lo,a0.bits,()),(a3,()),([] : List Ls),((⟨false,0,0⟩ : Ad),()),y1.1,(a0.ad.v6,a0.ad.hi,a0.ad.lo,a0.bits,()),()))).bind fun y2 =>
 sumC y2 (fun y3 =>
 br (decide (y3.1.1.1 ≥ 0))
 (req (i64ok (a4 + a5)) <|
 req (zq697 y3.1.1.1 (lenL y3.2.2.2.2.2.2.2.1)) <|
 req (zq697 y3.1.1.1 (lenL y3.2.2.2.2.2.2.2.1)) <|
 (geti y3.2.2.2.2.2.2.2.1 y3.1.1.1).bind fun p4 =>
 req (zq697 y3.1.1.1 (lenL (seti y3.2.2.2.2.2.2.2.1 y3.1.1.1 (⟨p4.ad,p4.who,a4 + a5⟩ : Ls)))) <|
 req (zq697 y3.1.1.1 (lenL (seti y3.2.2.2.2.2.2.2.1 y3.1.1.1 (⟨p4.ad,p4.who,a4 + a5⟩ : Ls)))) <|
 (geti (seti y3.2.2.2.2.2.2.2.1 y3.1.1.1 (⟨p4.ad,p4.who,a4 + a5⟩ : Ls)) y3.1.1.1).bind fun p5 =>
 some (seti y3.2.2.2.2.2.2.2.1 y3.1.1.1 (⟨p4.ad,p4.who,a4 + a5⟩ : Ls),p5.ad,true,()))
 ((zq264 (⟨(⟨y3.2.2.2.2.2.2.2.2.1.1,y3.2.2.2.2.2.2.2.2.1.2.1,y3.2.2.2.2.2.2.2.2.1.2.2.1⟩ : Ad),y3.2.2.2.2.2.2.2.2.1.2.2.2.1⟩ : Pf) y3.2.1 y3.2.2.2.2.2.2.2.1).bind fun y4 =>
 br (!y4.2.1)
 (some (([] : List Ls),y4.1,false,()))
 (req (i64ok (a4 + a5)) <|
 ((loopN zq955 FUEL (((()),(()),(()),(lenL y3.2.2.2.2.2.2.2.1,()),(0,()),(lenL y3.2.2.2.2.2.2.2.1,()),()),(y3.2.1,y3.2.2.1,(y3.2.2.2.1.1,y3.2.2.2.1.2.1,y3.2.2.2.1.2.2.1,y3.2.2.2.1.2.2.2.1,()),(y3.2.2.2.2.1.1,()),y3.2.2.2.2.2.1,(y3.2.2.2.2.2.2.1.1,()),y3.2.2.2.2.2.2.2.1,(y3.2.2.2.2.2.2.2.2.1.1,y3.2.2.2.2.2.2.2.2.1.2.1,y3.2.2.2.2.2.2.2.2.1.2.2.1,y3.2.2.2.2.2.2.2.2.1.2.2.2.1,()),(y4.1,()),((⟨y4.1,y3.2.2.2.2.1.1,a4 + a5⟩ : Ls),()),((⟨y4.1,y3.2.2.2.2.1.1,a4 + a5⟩ : Ls),()),()))).bind fun y5 =>
 br (decide (y5.1.2.2.2.2.1.1 < y5.1.2.2.2.1.1))
 (req (zq697 y5.1.2.2.2.2.1.1 (lenL y5.2.2.2.2.2.2.2.1)) <|
 (geti y5.2.2.2.2.2.2.2.1 y5.1.2.2.2.2.1.1).bind fun p6 =>
 (zq948 p6 y5.2.2.2.2.2.2.2.2.2.2.2.1.1).bind fun y7 =>
 some (y5.1.2.2.2.2.1.1,decide (y7.1 = 0),()))
 (some (y5.1.2.2.2.2.1.1,false,()))).bind fun y6 =>
 both
 (dup 1 <|
 req (decide (0 ≤ y6.1) && decide (y6.1 ≤ lenL y3.2.2.2.2.2.2.2.1) && room (lenL y3.2.2.2.2.2.2.2.1) 1) <|
 some (insL y3.2.2.2.2.2.2.2.1 y6.1 (⟨y4.1,y3.2.2.2.2.1.1,a4 + a5⟩ : Ls),y4.1,true,()))
 (req (decide (0 ≤ y6.1) && decide (y6.1 ≤ lenL y3.2.2.2.2.2.2.2.1) && room (lenL y3.2.2.2.2.2.2.2.1) 1) <|
 some (insL y3.2.2.2.2.2.2.2.1 y6.1 (⟨y4.1,y3.2.2.2.2.1.1,a4 + a5⟩ : Ls),y4.1,true,()))))) (fun y7 =>
 (zq264 (⟨(⟨y7.2.2.2.2.2.2.2.2.1.1,y7.2.2.2.2.2.2.2.2.1.2.1,y7.2.2.2.2.2.2.2.2.1.2.2.1⟩ : Ad),y7.2.2.2.2.2.2.2.2.1.2.2.2.1⟩ : Pf) y7.2.1 y7.2.2.2.2.2.2.2.1).bind fun y8 =>
 br (!y8.2.1)
 (some (([] : List Ls),y8.1,false,()))
 (req (i64ok (a4 + a5)) <|
 ((loopN zq954 FUEL (((()),(()),(()),(lenL y7.2.2.2.2.2.2.2.1,()),(0,()),(lenL y7.2.2.2.2.2.2.2.1,()),()),(y7.2.1,y7.2.2.1,(y7.2.2.2.1.1,y7.2.2.2.1.2.1,y7.2.2.2.1.2.2.1,y7.2.2.2.1.2.2.2.1,()),(y7.2.2.2.2.1.1,()),y7.2.2.2.2.2.1,(y7.2.2.2.2.2.2.1.1,()),y7.2.2.2.2.2.2.2.1,(y7.2.2.2.2.2.2.2.2.1.1,y7.2.2.2.2.2.2.2.2.1.2.1,y7.2.2.2.2.2.2.2.2.1.2.2.1,y7.2.2.2.2.2.2.2.2.1.2.2.2.1,()),(y8.1,()),((⟨y8.1,y7.2.2.2.2.1.1,a4 + a5⟩ : Ls),()),((⟨y8.1,y7.2.2.2.2.1.1,a4 + a5⟩ : Ls),()),()))).bind fun y9 =>
 br (decide (y9.1.2.2.2.2.1.1 < y9.1.2.2.2.1.1))
 (req (zq697 y9.1.2.2.2.2.1.1 (lenL y9.2.2.2.2.2.2.2.1)) <|
 (geti y9.2.2.2.2.2.2.2.1 y9.1.2.2.2.2.1.1).bind fun p10 =>
 (zq948 p10 y9.2.2.2.2.2.2.2.2.2.2.2.1.1).bind fun y11 =>
 some (y9.1.2.2.2.2.1.1,decide (y11.1 = 0),()))
 (some (y9.1.2.2.2.2.1.1,false,()))).bind fun y10 =>
 both
 (dup 1 <|
 req (decide (0 ≤ y10.1) && decide (y10.1 ≤ lenL y7.2.2.2.2.2.2.2.1) && room (lenL y7.2.2.2.2.2.2.2.1) 1) <|
 some (insL y7.2.2.2.2.2.2.2.1 y10.1 (⟨y8.1,y7.2.2.2.2.1.1,a4 + a5⟩ : Ls),y8.1,true,()))
 (req (decide (0 ≤ y10.1) && decide (y10.1 ≤ lenL y7.2.2.2.2.2.2.2.1) && room (lenL y7.2.2.2.2.2.2.2.1) 1) <|
 some (insL y7.2.2.2.2.2.2.2.1 y10.1 (⟨y8.1,y7.2.2.2.2.1.1,a4 + a5⟩ : Ls),y8.1,true,()))))
abbrev state_Raw___state_doer__do___state_doer__pool_slices_ContainsFunc___api_Pool_api_Pool__slices_IndexFunc___api_Pool_api_Pool__L2_A:=((Unit × Unit × (Int × Unit) × (Int × Unit) × Unit) × (List (List Ad) × List Pf × List Ls × (Int × Unit) × (Oq × Unit) × (Int × Unit) × List (List Ad) × List Pf × List Ls × (Ad × Unit) × List (List Ad) × List Pf × List Ls × (Int × Unit) × (Oq × Unit) × (Ad × Unit) × (Pf × Unit) × Unit))
abbrev state_Raw___state_doer__do___state_doer__pool_slices_ContainsFunc___api_Pool_api_Pool__slices_IndexFunc___api_Pool_api_Pool__L2_B:=Option ((((Int × Unit) × Unit) × (List (List Ad) × List Pf × List Ls × (Int × Unit) × (Oq × Unit) × (Int × Unit) × List (List Ad) × List Pf × List Ls × (Ad × Unit) × List (List Ad) × List Pf × List Ls × (Int × Unit) × (Oq × Unit) × (Ad × Unit) × (Pf × Unit) × Unit)) ⊕ (Unit × (List (List Ad) × List Pf × List Ls × (Int × Unit) × (Oq × Unit) × (Int × Unit) × List (List Ad) × List Pf × List Ls × (Ad × Unit) × List (List Ad) × List Pf × List Ls × (Int × Unit) × (Oq × Unit) × (Ad × Unit) × (Pf × Unit) × Unit)))
def zq1618 (rec : state_Raw___state_doer__do___state_doer__pool_slices_ContainsFunc___api_Pool_api_Pool__slices_IndexFunc___api_Pool_api_Pool__L2_A → state_Raw___state_doer__do___state_doer__pool_slices_ContainsFunc___api_Pool_api_Pool__slices_IndexFunc___api_Pool_api_Pool__L2_B) (x : state_Raw___state_doer__do___state_doer__pool_slices_ContainsFunc___api_Pool_api_Pool__slices_IndexFunc___api_Pool_api_Pool__L2_A) : state_Raw___state_doer__do___state_doer__pool_slices_ContainsFunc___api_Pool_api_Pool__slices_IndexFunc___api_Pool_api_Pool__L2_B :=
 let v0:=x.1.2.2.1.1
 let v1:=x.1.2.2.2.1.1
 let v2:=x.2.1
 let v3:=x.2.2.1
 let v4:=x.2.2.2.1
 let v5:=x.2.2.2.2.1.1
 let v6:=x.2.2.2.2.2.1.1
 let v7:=x.2.2.2.2.2.2.1.1
 let v8:=x.2.2.2.2.2.2.2.1
 let v9:=x.2.2.2.2.2.2.2.2.1
 let zz:=x.2.2.2.2.2.2.2.2.2
 let v10:=zz.1
 let v11:=zz.2.1.1
 let v12:=zz.2.2.1
 let v13:=zz.2.2.2.1
 let v14:=zz.2.2.2.2.1
 let v15:=zz.2.2.2.2.2.1.1
 let v16:=zz.2.2.2.2.2.2.1.1
 let v17:=zz.2.2.2.2.2.2.2.1.1
 let v18:=zz.2.2.2.2.2.2.2.2.1.1
 br (decide (v1 < v0))
 (req (zq697 v1 (lenL v13)) <|
 (geti v13 v1).bind fun p1 =>
 (zq304 p1 (getL v12 v1) v18).bind fun y2 =>
 br y2.1
 (some (Sum.inl (((v1,()),()),(v2,v3,v4,(v5,()),(v6,()),(v7,()),v8,v9,v10,(v11,()),v12,v13,v14,(v15,()),(v16,()),(v17,()),(v18,()),()))))
 (req (i64ok (v1 + 1)) <|
 rec (((),(),(v0,()),(v1 + 1,()),()),(v2,v3,v4,(v5,()),(v6,()),(v7,()),v8,v9,v10,(v11,()),v12,v13,v14,(v15,()),(v16,()),(v17,()),(v18,()),()))))
 (some (Sum.inr (((),(v2,v3,v4,(v5,()),(v6,()),(v7,()),v8,v9,v10,(v11,()),v12,v13,v14,(v15,()),(v16,()),(v17,()),(v18,()),())))))
abbrev state_Raw___state_doer__do___state_doer__pool_slices_BinarySearchFunc___api_Pool_api_Pool_api_Prefix__L3_A:=((Unit × Unit × Unit × (Int × Unit) × (Int × Unit) × (Int × Unit) × Unit) × (List (List Ad) × List Pf × List Ls × (Int × Unit) × (Oq × Unit) × (Int × Unit) × List (List Ad) × List Pf × List Ls × (Ad × Unit) × List (List Ad) × List Pf × List Ls × (Int × Unit) × (Oq × Unit) × (Ad × Unit) × (Pf × Unit) × (Pf × Unit) × Unit))
abbrev state_Raw___state_doer__do___state_doer__pool_slices_BinarySearchFunc___api_Pool_api_Pool_api_Prefix__L3_B:=Option ((Unit × Unit × Unit × (Int × Unit) × (Int × Unit) × Unit) × (List (List Ad) × List Pf × List Ls × (Int × Unit) × (Oq × Unit) × (Int × Unit) × List (List Ad) × List Pf × List Ls × (Ad × Unit) × List (List Ad) × List Pf × List Ls × (Int × Unit) × (Oq × Unit) × (Ad × Unit) × (Pf × Unit) × (Pf × Unit) × Unit))
def zq1609 (rec : state_Raw___state_doer__do___state_doer__pool_slices_BinarySearchFunc___api_Pool_api_Pool_api_Prefix__L3_A → state_Raw___state_doer__do___state_doer__pool_slices_BinarySearchFunc___api_Pool_api_Pool_api_Prefix__L3_B) (x : state_Raw___state_doer__do___state_doer__pool_slices_BinarySearchFunc___api_Pool_api_Pool_api_Prefix__L3_A) : state_Raw___state_doer__do___state_doer__pool_slices_BinarySearchFunc___api_Pool_api_Pool_api_Prefix__L3_B :=
 let v0:=x.1.2.2.2.1.1
 let v1:=x.1.2.2.2.2.1.1
 let v2:=x.1.2.2.2.2.2.1.1
 let v3:=x.2.1
 let v4:=x.2.2.1
 let v5:=x.2.2.2.1
 let v6:=x.2.2.2.2.1.1
 let v7:=x.2.2.2.2.2.1.1
 let v8:=x.2.2.2.2.2.2.1.1
 let v9:=x.2.2.2.2.2.2.2.1
 let v10:=x.2.2.2.2.2.2.2.2.1
 let zz:=x.2.2.2.2.2.2.2.2.2
 let v11:=zz.1
 let v12:=zz.2.1.1
 let v13:=zz.2.2.1
 let v14:=zz.2.2.2.1
 let v15:=zz.2.2.2.2.1
 let v16:=zz.2.2.2.2.2.1.1
 let v17:=zz.2.2.2.2.2.2.1.1
 let v18:=zz.2.2.2.2.2.2.2.1.1
 let v19:=zz.2.2.2.2.2.2.2.2.1.1
 let v20:=zz.2.2.2.2.2.2.2.2.2.1.1
 br (decide (v1 < v2))
 (req (i64ok (v1 + v2)) <|
 req (zq697 (convI .i64 (aop .shr .u64 (convI .u64 (v1 + v2)) 1)) (lenL v14)) <|
 (geti v14 (convI .i64 (aop .shr .u64 (convI .u64 (v1 + v2)) 1))).bind fun p1 =>
 (zq309 p1 (getL v13 (convI .i64 (aop .shr .u64 (convI .u64 (v1 + v2)) 1))) v20).bind fun y2 =>
 br (decide (y2.1 < 0))
 (req (i64ok ((convI .i64 (aop .shr .u64 (convI .u64 (v1 + v2)) 1)) + 1)) <|
 rec (((),(),(),(v0,()),((convI .i64 (aop .shr .u64 (convI .u64 (v1 + v2)) 1)) + 1,()),(v2,()),()),(v3,v4,v5,(v6,()),(v7,()),(v8,()),v9,v10,v11,(v12,()),v13,v14,v15,(v16,()),(v17,()),(v18,()),(v19,()),(v20,()),())))
 (rec (((),(),(),(v0,()),(v1,()),(convI .i64 (aop .shr .u64 (convI .u64 (v1 + v2)) 1),()),()),(v3,v4,v5,(v6,()),(v7,()),(v8,()),v9,v10,v11,(v12,()),v13,v14,v15,(v16,()),(v17,()),(v18,()),(v19,()),(v20,()),()))))
 (some (((),(),(),(v0,()),(v1,()),()),(v3,v4,v5,(v6,()),(v7,()),(v8,()),v9,v10,v11,(v12,()),v13,v14,v15,(v16,()),(v17,()),(v18,()),(v19,()),(v20,()),())))
abbrev state_Raw___state_doer__do___state_doer__pool_slices_BinarySearchFunc___api_Pool_api_Pool_api_Prefix__1_L3_A:=((Unit × Unit × Unit × (Int × Unit) × (Int × Unit) × (Int × Unit) × Unit) × (List (List Ad) × List Pf × List Ls × (Int × Unit) × (Oq × Unit) × (Int × Unit) × List (List Ad) × List Pf × List Ls × (Ad × Unit) × List (List Ad) × List Pf × List Ls × (Int × Unit) × (Oq × Unit) × (Ad × Unit) × (Pf × Unit) × (Pf × Unit) × Unit))
abbrev state_Raw___state_doer__do___state_doer__pool_slices_BinarySearchFunc___api_Pool_api_Pool_api_Prefix__1_L3_B:=Option ((Unit × Unit × Unit × (Int × Unit) × (Int × Unit) × Unit) × (List (List Ad) × List Pf × List Ls × (Int × Unit) × (Oq × Unit) × (Int × Unit) × List (List Ad) × List Pf × List Ls × (Ad × Unit) × List (List Ad) × List Pf × List Ls × (Int × Unit) × (Oq × Unit) × (Ad × Unit) × (Pf × Unit) × (Pf × Unit) × Unit))
def zq1608 (rec : state_Raw___state_doer__do___state_doer__pool_slices_BinarySearchFunc___api_Pool_api_Pool_api_Prefix__1_L3_A → state_Raw___state_doer__do___state_doer__pool_slices_BinarySearchFunc___api_Pool_api_Pool_api_Prefix__1_L3_B) (x : state_Raw___state_doer__do___state_doer__pool_slices_BinarySearchFunc___api_Pool_api_Pool_api_Prefix__1_L3_A) : state_Raw___state_doer__do___state_doer__pool_slices_BinarySearchFunc___api_Pool_api_Pool_api_Prefix__1_L3_B :=
 let v0:=x.1.2.2.2.1.1
 let v1:=x.1.2.2.2.2.1.1
 let v2:=x.1.2.2.2.2.2.1.1
 let v3:=x.2.1
 let v4:=x.2.2.1
 let v5:=x.2.2.2.1
 let v6:=x.2.2.2.2.1.1
 let v7:=x.2.2.2.2.2.1.1
 let v8:=x.2.2.2.2.2.2.1.1
 let v9:=x.2.2.2.2.2.2.2.1
 let v10:=x.2.2.2.2.2.2.2.2.1
 let zz:=x.2.2.2.2.2.2.2.2.2
 let v11:=zz.1
 let v12:=zz.2.1.1
 let v13:=zz.2.2.1
 let v14:=zz.2.2.2.1
 let v15:=zz.2.2.2.2.1
 let v16:=zz.2.2.2.2.2.1.1
 let v17:=zz.2.2.2.2.2.2.1.1
 let v18:=zz.2.2.2.2.2.2.2.1.1
 let v19:=zz.2.2.2.2.2.2.2.2.1.1
 let v20:=zz.2.2.2.2.2.2.2.2.2.1.1
 br (decide (v1 < v2))
 (req (i64ok (v1 + v2)) <|
 req (zq697 (convI .i64 (aop .shr .u64 (convI .u64 (v1 + v2)) 1)) (lenL v14)) <|
 (geti v14 (convI .i64 (aop .shr .u64 (convI .u64 (v1 + v2)) 1))).bind fun p1 =>
 (zq309 p1 (getL v13 (convI .i64 (aop .shr .u64 (convI .u64 (v1 + v2)) 1))) v20).bind fun y2 =>
 br (decide (y2.1 < 0))
 (req (i64ok ((convI .i64 (aop .shr .u64 (convI .u64 (v1 + v2)) 1)) + 1)) <|
 rec (((),(),(),(v0,()),((convI .i64 (aop .shr .u64 (convI .u64 (v1 + v2)) 1)) + 1,()),(v2,()),()),(v3,v4,v5,(v6,()),(v7,()),(v8,()),v9,v10,v11,(v12,()),v13,v14,v15,(v16,()),(v17,()),(v18,()),(v19,()),(v20,()),())))
 (rec (((),(),(),(v0,()),(v1,()),(convI .i64 (aop .shr .u64 (convI .u64 (v1 + v2)) 1),()),()),(v3,v4,v5,(v6,()),(v7,()),(v8,()),v9,v10,v11,(v12,()),v13,v14,v15,(v16,()),(v17,()),(v18,()),(v19,()),(v20,()),()))))
 (some (((),(),(),(v0,()),(v1,()),()),(v3,v4,v5,(v6,()),(v7,()),(v8,()),v9,v10,v11,(v12,()),v13,v14,v15,(v16,()),(v17,()),(v18,()),(v19,()),(v20,()),())))
abbrev state_Raw___state_doer__do___state_doer__keep_slices_BinarySearchFunc___api_Addr_api_Addr_api_Addr__L3_A:=(((Int × Unit) × Unit × Unit × (Int × Unit) × (Int × Unit) × (Int × Unit) × Unit) × (List (List Ad) × List Pf × List Ls × (Int × Unit) × (Oq × Unit) × (Int × Unit) × List (List Ad) × List Pf × List Ls × (Ad × Unit) × List (List Ad) × List Pf × List Ls × (Int × Unit) × (Oq × Unit) × (Ad × Unit) × (Ad × Unit) × (Ad × Unit) × Unit))
abbrev state_Raw___state_doer__do___state_doer__keep_slices_BinarySearchFunc___api_Addr_api_Addr_api_Addr__L3_B:=Option (((Int × Unit) × Unit × Unit × (Int × Unit) × (Int × Unit) × Unit) × (List (List Ad) × List Pf × List Ls × (Int × Unit) × (Oq × Unit) × (Int × Unit) × List (List Ad) × List Pf × List Ls × (Ad × Unit) × List (List Ad) × List Pf × List Ls × (Int × Unit) × (Oq × Unit) × (Ad × Unit) × (Ad × Unit) × (Ad × Unit) × Unit))
def zq1599 (rec : state_Raw___state_doer__do___state_doer__keep_slices_BinarySearchFunc___api_Addr_api_Addr_api_Addr__L3_A → state_Raw___state_doer__do___state_doer__keep_slices_BinarySearchFunc___api_Addr_api_Addr_api_Addr__L3_B) (x : state_Raw___state_doer__do___state_doer__keep_slices_BinarySearchFunc___api_Addr_api_Addr_api_Addr__L3_A) : state_Raw___state_doer__do___state_doer__keep_slices_BinarySearchFunc___api_Addr_api_Addr_api_Addr__L3_B :=
 let v0:=x.1.1.1
 let v1:=x.1.2.2.2.1.1
 let v2:=x.1.2.2.2.2.1.1
 let v3:=x.1.2.2.2.2.2.1.1
 let v4:=x.2.1
 let v5:=x.2.2.1
 let v6:=x.2.2.2.1
 let v7:=x.2.2.2.2.1.1
 let v8:=x.2.2.2.2.2.1.1
 let v9:=x.2.2.2.2.2.2.1.1
 let v10:=x.2.2.2.2.2.2.2.1
 let v11:=x.2.2.2.2.2.2.2.2.1
 let zz:=x.2.2.2.2.2.2.2.2.2
 let v12:=zz.1
 let v13:=zz.2.1.1
 let v14:=zz.2.2.1
 let v15:=zz.2.2.2.1
 let v16:=zz.2.2.2.2.1
 let v17:=zz.2.2.2.2.2.1.1
 let v18:=zz.2.2.2.2.2.2.1.1
 let v19:=zz.2.2.2.2.2.2.2.1.1
 let v20:=zz.2.2.2.2.2.2.2.2.1.1
 let v21:=zz.2.2.2.2.2.2.2.2.2.1.1
 br (decide (v2 < v3))
 (req (i64ok (v2 + v3)) <|
 req (zq697 (convI .i64 (aop .shr .u64 (convI .u64 (v2 + v3)) 1)) (lenL (getL v14 v0))) <|
 (geti (getL v14 v0) (convI .i64 (aop .shr .u64 (convI .u64 (v2 + v3)) 1))).bind fun p1 =>
 (zq349 p1 v21).bind fun y2 =>
 br (decide (y2.1 < 0))
 (req (i64ok ((convI .i64 (aop .shr .u64 (convI .u64 (v2 + v3)) 1)) + 1)) <|
 rec (((v0,()),(),(),(v1,()),((convI .i64 (aop .shr .u64 (convI .u64 (v2 + v3)) 1)) + 1,()),(v3,()),()),(v4,v5,v6,(v7,()),(v8,()),(v9,()),v10,v11,v12,(v13,()),v14,v15,v16,(v17,()),(v18,()),(v19,()),(v20,()),(v21,()),())))
 (rec (((v0,()),(),(),(v1,()),(v2,()),(convI .i64 (aop .shr .u64 (convI .u64 (v2 + v3)) 1),()),()),(v4,v5,v6,(v7,()),(v8,()),(v9,()),v10,v11,v12,(v13,()),v14,v15,v16,(v17,()),(v18,()),(v19,()),(v20,()),(v21,()),()))))
 (some (((v0,()),(),(),(v1,()),(v2,()),()),(v4,v5,v6,(v7,()),(v8,()),(v9,()),v10,v11,v12,(v13,()),v14,v15,v16,(v17,()),(v18,()),(v19,()),(v20,()),(v21,()),())))
abbrev state_Raw___state_doer__do___state_doer__grant_L9_A:=((Unit × (ByteArray × Unit) × (Int × Unit) × Unit × Unit × Unit × Unit × Unit × (Int × Unit) × (Int × Unit) × Unit) × (List (List Ad) × List Pf × List Ls × (Int × Unit) × (Oq × Unit) × (Int × Unit) × List (List Ad) × List Pf × List Ls × (Ad × Unit) × List (List Ad) × List Pf × List Ls × (Int × Unit) × (Oq × Unit) × (Ad × Unit) × (Ad × Unit) × (Bool × Int × Int × Int × Int × Unit) × List Ls × List Ls × Unit))
abbrev state_Raw___state_doer__do___state_doer__grant_L9_B:=Option ((Unit × (ByteArray × Unit) × (Int × Unit) × Unit × Unit × Unit × Unit × Unit) × (List (List Ad) × List Pf × List Ls × (Int × Unit) × (Oq × Unit) × (Int × Unit) × List (List Ad) × List Pf × List Ls × (Ad × Unit) × List (List Ad) × List Pf × List Ls × (Int × Unit) × (Oq × Unit) × (Ad × Unit) × (Ad × Unit) × (Bool × Int × Int × Int × Int × Unit) × List Ls × List Ls × Unit))
def zq1590 (rec : state_Raw___state_doer__do___state_doer__grant_L9_A → state_Raw___state_doer__do___state_doer__grant_L9_B) (x : state_Raw___state_doer__do___state_doer__grant_L9_A) : state_Raw___state_doer__do___state_doer__grant_L9_B :=
 let v0:=x.1.2.1.1
 let v1:=x.1.2.2.1.1
 let v2:=x.1.2.2.2.2.2.2.2.2.1.1
 let v3:=x.1.2.2.2.2.2.2.2.2.2.1.1
 let v4:=x.2.1
 let v5:=x.2.2.1
 let v6:=x.2.2.2.1
 let v7:=x.2.2.2.2.1.1
 let v8:=x.2.2.2.2.2.1.1
 let v9:=x.2.2.2.2.2.2.1.1
 let v10:=x.2.2.2.2.2.2.2.1
 let v11:=x.2.2.2.2.2.2.2.2.1
 let v12:=x.2.2.2.2.2.2.2.2.2.1
 let v13:=x.2.2.2.2.2.2.2.2.2.2.1.1
 let v14:=x.2.2.2.2.2.2.2.2.2.2.2.1
 let zz:=x.2.2.2.2.2.2.2.2.2.2.2.2
 let v15:=zz.1
 let v16:=zz.2.1
 let v17:=zz.2.2.1.1
 let v18:=zz.2.2.2.1.1
 let v19:=zz.2.2.2.2.1.1
 let v20:=zz.2.2.2.2.2.1.1
 let v21:=zz.2.2.2.2.2.2.1.1
 let v22:=zz.2.2.2.2.2.2.1.2.1
 let v23:=zz.2.2.2.2.2.2.1.2.2.1
 let v24:=zz.2.2.2.2.2.2.1.2.2.2.1
 let v25:=zz.2.2.2.2.2.2.1.2.2.2.2.1
 let v26:=zz.2.2.2.2.2.2.2.1
 let v27:=zz.2.2.2.2.2.2.2.2.1
 br (decide (v3 < v2))
 (req (zq697 v3 (lenL v16)) <|
 (geti v16 v3).bind fun p1 =>
 (zq1262 (⟨(⟨v21,v22,v23⟩ : Ad),v24⟩ : Pf) p1.ad).bind fun y2 =>
 br y2.1
 (req (room (lenL v26) (lenL ([p1] : List Ls))) <|
 req (i64ok (v3 + 1)) <|
 rec (((),(v0,()),(v1,()),(),(),(),(),(),(v2,()),(v3 + 1,()),()),(v4,v5,v6,(v7,()),(v8,()),(v9,()),v10,v11,v12,(v13,()),v14,v15,v16,(v17,()),(v18,()),(v19,()),(v20,()),(v21,v22,v23,v24,v25,()),v26 ++ ([p1] : List Ls),v27,())))
 (req (room (lenL v27) (lenL ([p1] : List Ls))) <|
 req (i64ok (v3 + 1)) <|
 rec (((),(v0,()),(v1,()),(),(),(),(),(),(v2,()),(v3 + 1,()),()),(v4,v5,v6,(v7,()),(v8,()),(v9,()),v10,v11,v12,(v13,()),v14,v15,v16,(v17,()),(v18,()),(v19,()),(v20,()),(v21,v22,v23,v24,v25,()),v26,v27 ++ ([p1] : List Ls),()))))
 (some (((),(v0,()),(v1,()),(),(),(),(),()),(v4,v5,v6,(v7,()),(v8,()),(v9,()),v10,v11,v12,(v13,()),v14,v15,v16,(v17,()),(v18,()),(v19,()),(v20,()),(v21,v22,v23,v24,v25,()),v26,v27,())))
def zq1632 (a0 : List Pf × List (List Ad)) (a1 : List Ls) (a2 : Int) (a3 : Oq) : Option (((List Pf × List (List Ad)) × (List Ls) × Int × Unit) × Ad × Int × Unit) :=
 (zq1577 a3).bind fun y1 =>
 br (!decide (y1.1 = 0))
 (some (((([] : List Pf),([] : List (List Ad))),([] : List Ls),0,()),(⟨false,0,0⟩ : Ad),y1.1,()))
 ((zq1586 a0 a1 a2).bind fun y2 =>
 br (decide (a3.kind = 1))
 ((loopN zq1618 FUEL (((()),(()),(lenL y2.1.1.1,()),(0,()),()),(a0.2,a0.1,a1,(a2,()),(a3,()),(0,()),([] : List (List Ad)),([] : List Pf),([] : List Ls),((⟨false,0,0⟩ : Ad),()),y2.1.1.2,y2.1.1.1,y2.1.2.1,(y2.1.2.2.1,()),(a3,()),((⟨false,0,0⟩ : Ad),()),(a3.pf,()),()))).bind fun y3 =>
 sumC y3 (fun y4 =>
 br (decide (y4.1.1.1 ≥ 0))
 (some (((([] : List Pf),([] : List (List Ad))),([] : List Ls),0,()),(⟨false,0,0⟩ : Ad),6,()))
 (br (decide (lenL y4.2.2.2.2.2.2.2.2.2.2.2.2.1 = 3))
 (some (((([] : List Pf),([] : List (List Ad))),([] : List Ls),0,()),(⟨false,0,0⟩ : Ad),2,()))
 (((loopN zq1609 FUEL (((()),(()),(()),(lenL y4.2.2.2.2.2.2.2.2.2.2.2.2.1,()),(0,()),(lenL y4.2.2.2.2.2.2.2.2.2.2.2.2.1,()),()),(y4.2.1,y4.2.2.1,y4.2.2.2.1,(y4.2.2.2.2.1.1,()),(y4.2.2.2.2.2.1.1,()),(y4.2.2.2.2.2.2.1.1,()),y4.2.2.2.2.2.2.2.1,y4.2.2.2.2.2.2.2.2.1,y4.2.2.2.2.2.2.2.2.2.1,(y4.2.2.2.2.2.2.2.2.2.2.1.1,()),y4.2.2.2.2.2.2.2.2.2.2.2.1,y4.2.2.2.2.2.2.2.2.2.2.2.2.1,y4.2.2.2.2.2.2.2.2.2.2.2.2.2.1,(y4.2.2.2.2.2.2.2.2.2.2.2.2.2.2.1.1,()),(y4.2.2.2.2.2.2.2.2.2.2.2.2.2.2.2.1.1,()),(y4.2.2.2.2.2.2.2.2.2.2.2.2.2.2.2.2.1.1,()),(y4.2.2.2.2.2.2.2.2.2.2.2.2.2.2.2.2.2.1.1,()),(y4.2.2.2.2.2.2.2.2.2.2.2.2.2.2.2.2.2.1.1,()),()))).bind fun y5 =>
 br (decide (y5.1.2.2.2.2.1.1 < y5.1.2.2.2.1.1))
 (req (zq697 y5.1.2.2.2.2.1.1 (lenL y5.2.2.2.2.2.2.2.2.2.2.2.2.1)) <|
 (geti y5.2.2.2.2.2.2.2.2.2.2.2.2.1 y5.1.2.2.2.2.1.1).bind fun p6 =>
 (zq309 p6 (getL y5.2.2.2.2.2.2.2.2.2.2.2.1 y5.1.2.2.2.2.1.1) y5.2.2.2.2.2.2.2.2.2.2.2.2.2.2.2.2.2.2.1.1).bind fun y7 =>
 some (y5.1.2.2.2.2.1.1,decide (y7.1 = 0),()))
 (some (y5.1.2.2.2.2.1.1,false,()))).bind fun y6 =>
 both
 (both
 (both
 (dup 1 <|
 req (decide (0 ≤ y6.1) && decide (y6.1 ≤ lenL y4.2.2.2.2.2.2.2.2.2.2.2.2.1) && room (lenL y4.2.2.2.2.2.2.2.2.2.2.2.2.1) 1) <|
 some (((insL y4.2.2.2.2.2.2.2.2.2.2.2.2.1 y6.1 y4.2.2.2.2.2.2.2.2.2.2.2.2.2.2.2.2.2.1.1,insL (padL y4.2.2.2.2.2.2.2.2.2.2.2.2.1.length y4.2.2.2.2.2.2.2.2.2.2.2.1) y6.1 ([] : List Ad)),y4.2.2.2.2.2.2.2.2.2.2.2.2.2.1,y4.2.2.2.2.2.2.2.2.2.2.2.2.2.2.1.1,()),(⟨false,0,0⟩ : Ad),0,()))
 (req (decide (0 ≤ y6.1) && decide (y6.1 ≤ lenL y4.2.2.2.2.2.2.2.2.2.2.2.2.1) && room (lenL y4.2.2.2.2.2.2.2.2.2.2.2.2.1) 1) <|
 some (((insL y4.2.2.2.2.2.2.2.2.2.2.2.2.1 y6.1 y4.2.2.2.2.2.2.2.2.2.2.2.2.2.2.2.2.2.1.1,insL (padL y4.2.2.2.2.2.2.2.2.2.2.2.2.1.length y4.2.2.2.2.2.2.2.2.2.2.2.1) y6.1 ([] : List Ad)),y4.2.2.2.2.2.2.2.2.2.2.2.2.2.1,y4.2.2.2.2.2.2.2.2.2.2.2.2.2.2.1.1,()),(⟨false,0,0⟩ : Ad),0,())))
 (req (decide (0 ≤ y6.1) && decide (y6.1 ≤ lenL y4.2.2.2.2.2.2.2.2.2.2.2.2.1) && room (lenL y4.2.2.2.2.2.2.2.2.2.2.2.2.1) 1) <|
 some (((insL y4.2.2.2.2.2.2.2.2.2.2.2.2.1 y6.1 y4.2.2.2.2.2.2.2.2.2.2.2.2.2.2.2.2.2.1.1,insL (padL y4.2.2.2.2.2.2.2.2.2.2.2.2.1.length y4.2.2.2.2.2.2.2.2.2.2.2.1) y6.1 ([] : List Ad)),y4.2.2.2.2.2.2.2.2.2.2.2.2.2.1,y4.2.2.2.2.2.2.2.2.2.2.2.2.2.2.1.1,()),(⟨false,0,0⟩ : Ad),0,())))
 (req (decide (0 ≤ y6.1) && decide (y6.1 ≤ lenL y4.2.2.2.2.2.2.2.2.2.2.2.2.1) && room (lenL y4.2.2.2.2.2.2.2.2.2.2.2.2.1) 1) <|
 some (((insL y4.2.2.2.2.2.2.2.2.2.2.2.2.1 y6.1 y4.2.2.2.2.2.2.2.2.2.2.2.2.2.2.2.2.2.1.1,insL (padL y4.2.2.2.2.2.2.2.2.2.2.2.2.1.length y4.2.2.2.2.2.2.2.2.2.2.2.1) y6.1 ([] : List Ad)),y4.2.2.2.2.2.2.2.2.2.2.2.2.2.1,y4.2.2.2.2.2.2.2.2.2.2.2.2.2.2.1.1,()),(⟨false,0,0⟩ : Ad),0,()))))) (fun y7 =>
 br (decide (lenL y7.2.2.2.2.2.2.2.2.2.2.2.2.1 = 3))
 (some (((([] : List Pf),([] : List (List Ad))),([] : List Ls),0,()),(⟨false,0,0⟩ : Ad),2,()))
 (((loopN zq1608 FUEL (((()),(()),(()),(lenL y7.2.2.2.2.2.2.2.2.2.2.2.2.1,()),(0,()),(lenL y7.2.2.2.2.2.2.2.2.2.2.2.2.1,()),()),(y7.2.1,y7.2.2.1,y7.2.2.2.1,(y7.2.2.2.2.1.1,()),(y7.2.2.2.2.2.1.1,()),(y7.2.2.2.2.2.2.1.1,()),y7.2.2.2.2.2.2.2.1,y7.2.2.2.2.2.2.2.2.1,y7.2.2.2.2.2.2.2.2.2.1,(y7.2.2.2.2.2.2.2.2.2.2.1.1,()),y7.2.2.2.2.2.2.2.2.2.2.2.1,y7.2.2.2.2.2.2.2.2.2.2.2.2.1,y7.2.2.2.2.2.2.2.2.2.2.2.2.2.1,(y7.2.2.2.2.2.2.2.2.2.2.2.2.2.2.1.1,()),(y7.2.2.2.2.2.2.2.2.2.2.2.2.2.2.2.1.1,()),(y7.2.2.2.2.2.2.2.2.2.2.2.2.2.2.2.2.1.1,()),(y7.2.2.2.2.2.2.2.2.2.2.2.2.2.2.2.2.2.1.1,()),(y7.2.2.2.2.2.2.2.2.2.2.2.2.2.2.2.2.2.1.1,()),()))).bind fun y8 =>
 br (decide (y8.1.2.2.2.2.1.1 < y8.1.2.2.2.1.1))
 (req (zq697 y8.1.2.2.2.2.1.1 (lenL y8.2.2.2.2.2.2.2.2.2.2.2.2.1)) <|
 (geti y8.2.2.2.2.2.2.2.2.2.2.2.2.1 y8.1.2.2.2.2.1.1).bind fun p9 =>
 (zq309 p9 (getL y8.2.2.2.2.2.2.2.2.2.2.2.1 y8.1.2.2.2.2.1.1) y8.2.2.2.2.2.2.2.2.2.2.2.2.2.2.2.2.2.2.1.1).bind fun y10 =>
 some (y8.1.2.2.2.2.1.1,decide (y10.1 = 0),()))
 (some (y8.1.2.2.2.2.1.1,false,()))).bind fun y9 =>
 both
 (both
 (both
 (dup 1 <|
 req (decide (0 ≤ y9.1) && decide (y9.1 ≤ lenL y7.2.2.2.2.2.2.2.2.2.2.2.2.1) && room (lenL y7.2.2.2.2.2.2.2.2.2.2.2.2.1) 1) <|
 some (((insL y7.2.2.2.2.2.2.2.2.2.2.2.2.1 y9.1 y7.2.2.2.2.2.2.2.2.2.2.2.2.2.2.2.2.2.1.1,insL (padL y7.2.2.2.2.2.2.2.2.2.2.2.2.1.length y7.2.2.2.2.2.2.2.2.2.2.2.1) y9.1 ([] : List Ad)),y7.2.2.2.2.2.2.2.2.2.2.2.2.2.1,y7.2.2.2.2.2.2.2.2.2.2.2.2.2.2.1.1,()),(⟨false,0,0⟩ : Ad),0,()))
 (req (decide (0 ≤ y9.1) && decide (y9.1 ≤ lenL y7.2.2.2.2.2.2.2.2.2.2.2.2.1) && room (lenL y7.2.2.2.2.2.2.2.2.2.2.2.2.1) 1) <|
 some (((insL y7.2.2.2.2.2.2.2.2.2.2.2.2.1 y9.1 y7.2.2.2.2.2.2.2.2.2.2.2.2.2.2.2.2.2.1.1,insL (padL y7.2.2.2.2.2.2.2.2.2.2.2.2.1.length y7.2.2.2.2.2.2.2.2.2.2.2.1) y9.1 ([] : List Ad)),y7.2.2.2.2.2.2.2.2.2.2.2.2.2.1,y7.2.2.2.2.2.2.2.2.2.2.2.2.2.2.1.1,()),(⟨false,0,0⟩ : Ad),0,())))
 (req (decide (0 ≤ y9.1) && decide (y9.1 ≤ lenL y7.2.2.2.2.2.2.2.2.2.2.2.2.1) && room (lenL y7.2.2.2.2.2.2.2.2.2.2.2.2.1) 1) <|
 some (((insL y7.2.2.2.2.2.2.2.2.2.2.2.2.1 y9.1 y7.2.2.2.2.2.2.2.2.2.2.2.2.2.2.2.2.2.1.1,insL (padL y7.2.2.2.2.2.2.2.2.2.2.2.2.1.length y7.2.2.2.2.2.2.2.2.2.2.2.1) y9.1 ([] : List Ad)),y7.2.2.2.2.2.2.2.2.2.2.2.2.2.1,y7.2.2.2.2.2.2.2.2.2.2.2.2.2.2.1.1,()),(⟨false,0,0⟩ : Ad),0,())))
 (req (decide (0 ≤ y9.1) && decide (y9.1 ≤ lenL y7.2.2.2.2.2.2.2.2.2.2.2.2.1) && room (lenL y7.2.2.2.2.2.2.2.2.2.2.2.2.1) 1) <|
 some (((insL y7.2.2.2.2.2.2.2.2.2.2.2.2.1 y9.1 y7.2.2.2.2.2.2.2.2.2.2.2.2.2.2.2.2.2.1.1,insL (padL y7.2.2.2.2.2.2.2.2.2.2.2.2.1.length y7.2.2.2.2.2.2.2.2.2.2.2.1) y9.1 ([] : List Ad)),y7.2.2.2.2.2.2.2.2.2.2.2.2.2.1,y7.2.2.2.2.2.2.2.2.2.2.2.2.2.2.1.1,()),(⟨false,0,0⟩ : Ad),0,())))))
 (br (decide (a3.kind = 2))
 ((zq1656 y2.1.1 y2.1.2.1 y2.1.2.2.1 a3.ad).bind fun y3 =>
 br (decide (y3.1 < 0))
 (some (((([] : List Pf),([] : List (List Ad))),([] : List Ls),0,()),(⟨false,0,0⟩ : Ad),5,()))
 (req (zq697 y3.1 (lenL y2.1.1.1)) <|
 req (zq697 y3.1 (lenL y2.1.1.1)) <|
 req (zq697 y3.1 (lenL y2.1.1.1)) <|
 (geti y2.1.1.1 y3.1).bind fun p4 =>
 ((loopN zq1599 FUEL (((y3.1,()),(()),(()),(lenL (getL y2.1.1.2 y3.1),()),(0,()),(lenL (getL y2.1.1.2 y3.1),()),()),(a0.2,a0.1,a1,(a2,()),(a3,()),(0,()),([] : List (List Ad)),([] : List Pf),([] : List Ls),((⟨false,0,0⟩ : Ad),()),y2.1.1.2,y2.1.1.1,y2.1.2.1,(y2.1.2.2.1,()),(a3,()),((⟨false,0,0⟩ : Ad),()),(a3.ad,()),(a3.ad,()),()))).bind fun y5 =>
 br (decide (y5.1.2.2.2.2.1.1 < y5.1.2.2.2.1.1))
 (req (zq697 y5.1.2.2.2.2.1.1 (lenL (getL y5.2.2.2.2.2.2.2.2.2.2.2.1 y5.1.1.1))) <|
 (geti (getL y5.2.2.2.2.2.2.2.2.2.2.2.1 y5.1.1.1) y5.1.2.2.2.2.1.1).bind fun p6 =>
 (zq349 p6 y5.2.2.2.2.2.2.2.2.2.2.2.2.2.2.2.2.2.2.1.1).bind fun y7 =>
 some (y5.1.2.2.2.2.1.1,decide (y7.1 = 0),()))
 (some (y5.1.2.2.2.2.1.1,false,()))).bind fun y6 =>
 br y6.2.1
 (some (((([] : List Pf),([] : List (List Ad))),([] : List Ls),0,()),(⟨false,0,0⟩ : Ad),6,()))
 (req (zq697 y3.1 (lenL y2.1.1.1)) <|
 req (zq697 y3.1 (lenL y2.1.1.1)) <|
 (geti y2.1.1.1 y3.1).bind fun p7 =>
 br (decide (lenL (getL y2.1.1.2 y3.1) = 6))
 (some (((([] : List Pf),([] : List (List Ad))),([] : List Ls),0,()),(⟨false,0,0⟩ : Ad),2,()))
 (req (zq697 y3.1 (lenL y2.1.1.1)) <|
 req (zq697 y3.1 (lenL y2.1.1.1)) <|
 (geti y2.1.1.1 y3.1).bind fun p8 =>
 req (decide (0 ≤ y3.1)) <|
 req (decide (0 ≤ y6.1) && decide (y6.1 ≤ lenL (getL y2.1.1.2 y3.1)) && room (lenL (getL y2.1.1.2 y3.1)) 1) <|
 req (zq697 y3.1 (lenL y2.1.1.1)) <|
 req (zq697 y3.1 (lenL y2.1.1.1)) <|
 req (decide (y3.1 = y3.1)) <|
 (geti y2.1.1.1 y3.1).bind fun p9 =>
 some (((seti y2.1.1.1 y3.1 p9,seti (padL y2.1.1.1.length (outL y2.1.1.2 y3.1)) y3.1 (insL (getL y2.1.1.2 y3.1) y6.1 a3.ad)),y2.1.2.1,y2.1.2.2.1,()),(⟨false,0,0⟩ : Ad),0,())))))
 (br (decide (a3.kind = 3))
 (br (decide (a3.of_ ≥ lenL y2.1.1.1))
 (some (((([] : List Pf),([] : List (List Ad))),([] : List Ls),0,()),(⟨false,0,0⟩ : Ad),5,()))
 (req (zq697 a3.of_ (lenL y2.1.1.1)) <|
 (geti y2.1.1.1 a3.of_).bind fun p3 =>
 (zq299 y2.1.1 y2.1.2.1 y2.1.2.2.1 a3.who).bind fun y4 =>
 (br (decide (y4.1 ≥ 0))
 (req (zq697 y4.1 (lenL y2.1.2.1)) <|
 req (zq697 y4.1 (lenL y2.1.2.1)) <|
 (geti y2.1.2.1 y4.1).bind fun p5 =>
 (zq1262 p3 p5.ad).bind fun y6 =>
 some (!y6.1))
 (some false)).bind fun c5 =>
 br c5
 (some (((([] : List Pf),([] : List (List Ad))),([] : List Ls),0,()),(⟨false,0,0⟩ : Ad),6,()))
 ((loopN zq1590 FUEL (((()),(a3.who,()),(a3.n,()),(()),(()),(()),(()),(()),(lenL y2.1.2.1,()),(0,()),()),(a0.2,a0.1,a1,(a2,()),(a3,()),(0,()),([] : List (List Ad)),([] : List Pf),([] : List Ls),((⟨false,0,0⟩ : Ad),()),y2.1.1.2,y2.1.1.1,y2.1.2.1,(y2.1.2.2.1,()),(a3,()),((⟨false,0,0⟩ : Ad),()),((⟨false,0,0⟩ : Ad),()),(p3.ad.v6,p3.ad.hi,p3.ad.lo,p3.bits,a3.of_,()),([] : List Ls),([] : List Ls),()))).bind fun y6 =>
 dup 1 <|
 (zq967 (⟨(⟨y6.2.2.2.2.2.2.2.2.2.2.2.2.2.2.2.2.2.2.1.1,y6.2.2.2.2.2.2.2.2.2.2.2.2.2.2.2.2.2.2.1.2.1,y6.2.2.2.2.2.2.2.2.2.2.2.2.2.2.2.2.2.2.1.2.2.1⟩ : Ad),y6.2.2.2.2.2.2.2.2.2.2.2.2.2.2.2.2.2.2.1.2.2.2.1⟩ : Pf) (getL y6.2.2.2.2.2.2.2.2.2.2.2.1 y6.2.2.2.2.2.2.2.2.2.2.2.2.2.2.2.2.2.2.1.2.2.2.2.1) y6.2.2.2.2.2.2.2.2.2.2.2.2.2.2.2.2.2.2.2.1 y6.1.2.1.1 y6.2.2.2.2.2.2.2.2.2.2.2.2.2.2.1.1 y6.1.2.2.1.1).bind fun y7 =>
 br (!y7.2.2.1)
 (some (((([] : List Pf),([] : List (List Ad))),([] : List Ls),0,()),(⟨false,0,0⟩ : Ad),8,()))
 (req (i64ok ((lenL y7.1) + (lenL y6.2.2.2.2.2.2.2.2.2.2.2.2.2.2.2.2.2.2.2.2.1))) <|
 br (decide ((lenL y7.1) + (lenL y6.2.2.2.2.2.2.2.2.2.2.2.2.2.2.2.2.2.2.2.2.1) > 20))
 (some (((([] : List Pf),([] : List (List Ad))),([] : List Ls),0,()),(⟨false,0,0⟩ : Ad),2,()))
 (req (room (lenL y7.1) (lenL y6.2.2.2.2.2.2.2.2.2.2.2.2.2.2.2.2.2.2.2.2.1)) <|
 req (zq1530 (y7.1 ++ y6.2.2.2.2.2.2.2.2.2.2.2.2.2.2.2.2.2.2.2.2.1)) <|
 some (((y6.2.2.2.2.2.2.2.2.2.2.2.2.1,y6.2.2.2.2.2.2.2.2.2.2.2.1),sortL (y7.1 ++ y6.2.2.2.2.2.2.2.2.2.2.2.2.2.2.2.2.2.2.2.2.1),y6.2.2.2.2.2.2.2.2.2.2.2.2.2.2.1.1,()),y7.2.1,0,()))))))
 (br (decide (a3.kind = 4))
 ((zq299 y2.1.1 y2.1.2.1 y2.1.2.2.1 a3.who).bind fun y3 =>
 br (decide (y3.1 < 0))
 (some (((([] : List Pf),([] : List (List Ad))),([] : List Ls),0,()),(⟨false,0,0⟩ : Ad),5,()))
 (req (zq697 y3.1 (lenL y2.1.2.1)) <|
 req (zq697 y3.1 (lenL y2.1.2.1)) <|
 (geti y2.1.2.1 y3.1).bind fun p4 =>
 req (i64ok (y3.1 + 1)) <|
 req (decide (0 ≤ y3.1) && decide (y3.1 ≤ y3.1 + 1) && decide (y3.1 + 1 ≤ lenL y2.1.2.1)) <|
 some ((y2.1.1,delL y2.1.2.1 y3.1 (y3.1 + 1),y2.1.2.2.1,()),p4.ad,0,())))
 (br (decide (a3.n < y2.1.2.2.1))
 (some (((([] : List Pf),([] : List (List Ad))),([] : List Ls),0,()),(⟨false,0,0⟩ : Ad),4,()))
 ((zq923 y2.1.2.1 a3.n).bind fun y3 =>
 some ((y2.1.1,y3.1,a3.n,()),(⟨false,0,0⟩ : Ad),0,())))))))
def zq1571 (a0 : List Pf × List (List Ad)) (a1 : List Ls) (a2 : Int) (a3 : Oq) : Option (((List Pf × List (List Ad)) × (List Ls) × Int × Unit) × Ad × Int × Unit) :=
 (zq1565 a0 a1 a2).bind fun y1 =>
 br (!decide (y1.1 = 0))
 (some (((([] : List Pf),([] : List (List Ad))),([] : List Ls),0,()),(⟨false,0,0⟩ : Ad),y1.1,()))
 ((zq1632 a0 a1 a2 a3).bind fun y2 =>
 some ((y2.1.1,y2.1.2.1,y2.1.2.2.1,()),y2.2.1,y2.2.2.1,()))
abbrev law_do_L4_A:=((Unit × Unit × Unit × Unit × Unit × (Int × Unit) × Unit) × (List Oq × (Int × Unit) × (Ad × Unit) × (Int × Unit) × (Ad × Unit) × List Pf × List Ls × List Pf × List Ls × List (List Ad) × List (List Ad) × Unit))
abbrev law_do_L4_B:=Option (((Unit × Unit × (Int × Unit) × Unit) × (List Oq × (Int × Unit) × (Ad × Unit) × List Pf × List Ls × List (List Ad) × Unit)) ⊕ ((Unit × Unit × Unit × Unit × Unit) × (List Oq × (Int × Unit) × (Ad × Unit) × (Int × Unit) × (Ad × Unit) × List Pf × List Ls × List Pf × List Ls × List (List Ad) × List (List Ad) × Unit)))
def zq816 (rec : law_do_L4_A → law_do_L4_B) (x : law_do_L4_A) : law_do_L4_B :=
 let v0:=x.1.2.2.2.2.2.1.1
 let v1:=x.2.1
 let v2:=x.2.2.1.1
 let v3:=x.2.2.2.1.1
 let v4:=x.2.2.2.2.1.1
 let v5:=x.2.2.2.2.2.1.1
 let zz:=x.2.2.2.2.2.2
 let v6:=zz.1
 let v7:=zz.2.1
 let v8:=zz.2.2.1
 let v9:=zz.2.2.2.1
 let v10:=zz.2.2.2.2.1
 let v11:=zz.2.2.2.2.2.1
 br (decide (v0 < lenL v1))
 (req (zq697 v0 (lenL v1)) <|
 (geti v1 v0).bind fun p1 =>
 both
 ((zq1571 (v8,v11) v9 v4 p1).bind fun y2 =>
 dup 1 <|
 br (!decide (y2.2.2.1 = 0))
 (some (Sum.inl (((),(),(y2.2.2.1,()),()),(v1,(y2.1.2.2.1,()),(y2.2.1,()),y2.1.1.1,y2.1.2.1,y2.1.1.2,()))))
 (req (i64ok (v0 + 1)) <|
 rec (((),(),(),(),(),(v0 + 1,()),()),(v1,(v2,()),(v3,()),(y2.1.2.2.1,()),(y2.2.1,()),v6,v7,y2.1.1.1,y2.1.2.1,v10,y2.1.1.2,()))))
 (both
 (dup 1 <|
 (zq1571 (v8,v11) v9 v4 p1).bind fun y2 =>
 br (!decide (y2.2.2.1 = 0))
 (some (Sum.inl (((),(),(y2.2.2.1,()),()),(v1,(y2.1.2.2.1,()),(y2.2.1,()),y2.1.1.1,y2.1.2.1,y2.1.1.2,()))))
 (req (i64ok (v0 + 1)) <|
 rec (((),(),(),(),(),(v0 + 1,()),()),(v1,(v2,()),(v3,()),(y2.1.2.2.1,()),(y2.2.1,()),v6,v7,y2.1.1.1,y2.1.2.1,v10,y2.1.1.2,()))))
 (dup 1 <|
 (zq1571 (v8,v11) v9 v4 p1).bind fun y2 =>
 br (!decide (y2.2.2.1 = 0))
 (some (Sum.inl (((),(),(y2.2.2.1,()),()),(v1,(y2.1.2.2.1,()),(y2.2.1,()),y2.1.1.1,y2.1.2.1,y2.1.1.2,()))))
 (req (i64ok (v0 + 1)) <|
 rec (((),(),(),(),(),(v0 + 1,()),()),(v1,(v2,()),(v3,()),(y2.1.2.2.1,()),(y2.2.1,()),v6,v7,y2.1.1.1,y2.1.2.1,v10,y2.1.1.2,()))))))
 (some (Sum.inr ((((),(),(),(),()),(v1,(v2,()),(v3,()),(v4,()),(v5,()),v6,v7,v8,v9,v10,v11,())))))
def zq824 (a0 : List Oq) : Option (((List Pf × List (List Ad)) × (List Ls) × Int × Unit) × Ad × Int × Unit) :=
 (loopN zq816 FUEL (((()),(()),(()),(()),(()),(0,()),()),(a0,(0,()),((⟨false,0,0⟩ : Ad),()),(0,()),((⟨false,0,0⟩ : Ad),()),([] : List Pf),([] : List Ls),([] : List Pf),([] : List Ls),([] : List (List Ad)),([] : List (List Ad)),()))).bind fun y1 =>
 sumC y1 (fun y2 =>
 some (((y2.2.2.2.2.1,y2.2.2.2.2.2.2.1),y2.2.2.2.2.2.1,y2.2.2.1.1,()),y2.2.2.2.1.1,y2.1.2.2.1.1,())) (fun y3 =>
 some (((y3.2.2.2.2.2.2.2.2.1,y3.2.2.2.2.2.2.2.2.2.2.2.1),y3.2.2.2.2.2.2.2.2.2.1,y3.2.2.2.2.1.1,()),y3.2.2.2.2.2.1.1,0,()))
def zq850 : Option (Bool × Unit) :=
 zq845.bind fun y1 =>
 (zq824 y1.1).bind fun y2 =>
 (zq1571 y2.1.1 y2.1.2.1 y2.1.2.2.1 (⟨4,(⟨(⟨false,0,0⟩ : Ad),0⟩ : Pf),(⟨false,0,0⟩ : Ad),(⟨#[120]⟩ : ByteArray),0,0⟩ : Oq)).bind fun y3 =>
 (zq1571 y2.1.1 y2.1.2.1 y2.1.2.2.1 (⟨5,(⟨(⟨false,0,0⟩ : Ad),0⟩ : Pf),(⟨false,0,0⟩ : Ad),(ByteArray.empty),0,11⟩ : Oq)).bind fun y4 =>
 (zq1565 y2.1.1 y2.1.2.1 y2.1.2.2.1).bind fun y5 =>
 br (decide (y5.1 = 0))
 (zq845.bind fun y6 =>
 req (zq697 0 (lenL y6.1)) <|
 (geti y6.1 0).bind fun p7 =>
 (zq1577 p7).bind fun y8 =>
 br (decide (y8.1 = 0))
 (br (decide (y2.2.2.1 = 0))
 (br (decide (y3.2.2.1 = 0))
 (br (decide (y4.2.2.1 = 0))
 ((zq861 9).bind fun y9 =>
 br (eqAd y2.2.1 y9.1)
 (br (eqAd y3.2.1 y2.2.1)
 (br (decide (lenL y2.1.2.1 = 1))
 (br (decide (lenL y3.1.2.1 = 0))
 (br (decide (lenL y4.1.2.1 = 0))
 (some (decide (y4.1.2.2.1 = 11),()))
 (some (false,())))
 (some (false,())))
 (some (false,())))
 (some (false,())))
 (some (false,())))
 (some (false,())))
 (some (false,())))
 (some (false,())))
 (some (false,())))
 (some (false,()))
abbrev lease_Check_L7_A:=((Unit × Unit × Unit × (Int × Unit) × (Int × Unit) × Unit) × (List Ad × List Ls × (Bool × Int × Int × Int × Unit) × Unit))
abbrev lease_Check_L7_B:=Option ((((Int × Unit) × Unit) × (List Ad × List Ls × Unit)) ⊕ (Unit × (List Ad × List Ls × Unit)))
def zq880 (rec : lease_Check_L7_A → lease_Check_L7_B) (x : lease_Check_L7_A) : lease_Check_L7_B :=
 let v0:=x.1.2.2.2.1.1
 let v1:=x.1.2.2.2.2.1.1
 let v2:=x.2.1
 let v3:=x.2.2.1
 let zz:=x.2.2.2
 let v4:=zz.1.1
 let v5:=zz.1.2.1
 let v6:=zz.1.2.2.1
 let v7:=zz.1.2.2.2.1
 br (decide (v1 < v0))
 (req (zq697 v1 (lenL v3)) <|
 (geti v3 v1).bind fun p1 =>
 (zq1262 (⟨(⟨v4,v5,v6⟩ : Ad),v7⟩ : Pf) p1.ad).bind fun y2 =>
 br (!y2.1)
 (some (Sum.inl (((5,()),()),(v2,v3,()))))
 (req (i64ok (v1 + 1)) <|
 req ((decide (0 ≤ v1 + 1)) && (decide (v1 + 1 ≤ lenL v3))) <|
 (zq970 (subL v3 0 (v1 + 1))).bind fun y3 =>
 br y3.1
 (some (Sum.inl (((6,()),()),(v2,v3,()))))
 (req (i64ok (v1 + 1)) <|
 rec (((),(),(),(v0,()),(v1 + 1,()),()),(v2,v3,(v4,v5,v6,v7,()),())))))
 (some (Sum.inr (((),(v2,v3,())))))
def zq888 (a0 : Pf) (a1 : List Ad) (a2 : List Ls) (a3 : Int) : Option (Int × Unit) :=
 (zq938 a0 a1).bind fun y1 =>
 br (decide (y1.1 = 0))
 ((zq879 a2 a3).bind fun y2 =>
 br (!decide (y2.1 = 0))
 (some (y2.1,()))
 ((loopN zq880 FUEL (((()),(()),(()),(lenL a2,()),(0,()),()),(a1,a2,(a0.ad.v6,a0.ad.hi,a0.ad.lo,a0.bits,()),()))).bind fun y3 =>
 sumC y3 (fun y4 =>
 some (y4.1.1.1,())) (fun y5 =>
 some (0,()))))
 (br (!decide (y1.1 = 0))
 (some (y1.1,()))
 ((loopN zq880 FUEL (((()),(()),(()),(lenL a2,()),(0,()),()),(a1,a2,(a0.ad.v6,a0.ad.hi,a0.ad.lo,a0.bits,()),()))).bind fun y2 =>
 sumC y2 (fun y3 =>
 some (y3.1.1.1,())) (fun y4 =>
 some (0,()))))
def zq900 (a0 : Pf) (a1 : List Ad) (a2 : List Ls) (a3 : ByteArray) (a4 : Int) (a5 : Int) : Option ((List Ls) × Ad × Int × Unit) :=
 (zq888 a0 a1 a2 a4).bind fun y1 =>
 br (!decide (y1.1 = 0))
 (br (!decide (y1.1 = 0))
 (some (([] : List Ls),(⟨false,0,0⟩ : Ad),y1.1,()))
 ((zq967 a0 a1 a2 a3 a4 a5).bind fun y2 =>
 br (!y2.2.2.1)
 (some (([] : List Ls),(⟨false,0,0⟩ : Ad),8,()))
 (some (y2.1,y2.2.1,0,()))))
 ((zq979 a3).bind fun y2 =>
 br (!y2.1)
 (some (([] : List Ls),(⟨false,0,0⟩ : Ad),1,()))
 ((zq991 a5 1 500).bind fun y3 =>
 br (!y3.1)
 (some (([] : List Ls),(⟨false,0,0⟩ : Ad),3,()))
 (br (!decide (y1.1 = 0))
 (some (([] : List Ls),(⟨false,0,0⟩ : Ad),y1.1,()))
 ((zq967 a0 a1 a2 a3 a4 a5).bind fun y4 =>
 br (!y4.2.2.1)
 (some (([] : List Ls),(⟨false,0,0⟩ : Ad),8,()))
 (some (y4.1,y4.2.1,0,()))))))
def zq829 : Option (Bool × Unit) :=
 zq839.bind fun y1 =>
 (zq900 y1.1.1 y1.1.2.1 [] (⟨#[120]⟩ : ByteArray) 5 10).bind fun y2 =>
 zq839.bind fun y3 =>
 (zq900 y3.1.1 y3.1.2.1 y2.1 (⟨#[121]⟩ : ByteArray) 5 1).bind fun y4 =>
 zq839.bind fun y5 =>
 (zq900 y5.1.1 y5.1.2.1 y4.1 (⟨#[122]⟩ : ByteArray) 7 1).bind fun y6 =>
 (zq894 y4.1 7).bind fun y7 =>
 zq839.bind fun y8 =>
 (zq938 y8.1.1 y8.1.2.1).bind fun y9 =>
 br (decide (y9.1 = 0))
 (zq839.bind fun y10 =>
 (zq888 y10.1.1 y10.1.2.1 y4.1 5).bind fun y11 =>
 br (decide (y11.1 = 0))
 (br (decide (y2.2.2.1 = 0))
 (br (decide (y4.2.2.1 = 0))
 (br (decide (y6.2.2.1 = 0))
 (br (decide (y7.2.2.1 = 0))
 ((zq861 9).bind fun y12 =>
 br (eqAd y2.2.1 y12.1)
 ((zq861 10).bind fun y13 =>
 br (eqAd y4.2.1 y13.1)
 ((zq861 10).bind fun y14 =>
 br (eqAd y6.2.1 y14.1)
 (br (decide (lenL y6.1 = 2))
 (br (decide (lenL y7.1 = 1))
 (some (decide (y7.2.1 = 1),()))
 (some (false,())))
 (some (false,())))
 (some (false,())))
 (some (false,())))
 (some (false,())))
 (some (false,())))
 (some (false,())))
 (some (false,())))
 (some (false,())))
 (some (false,())))
 (some (false,()))
abbrev R_GrantOf_L13_A:=(((ByteArray × Unit) × (Int × Unit) × (Int × Unit) × Unit × Unit × Unit × Unit × Unit × (Int × Unit) × (Bool × Unit) × (Int × Unit) × Unit) × (List Ad × List Ls × (Bool × Int × Int × Int × Unit) × (Ad × Unit) × List Ls × List Ls × (Ad × Unit) × Unit))
abbrev R_GrantOf_L13_B:=Option (((ByteArray × Unit) × (Int × Unit) × (Int × Unit) × Unit × Unit × Unit × Unit × Unit × (Int × Unit) × (Bool × Unit) × Unit) × (List Ad × List Ls × (Bool × Int × Int × Int × Unit) × (Ad × Unit) × List Ls × List Ls × (Ad × Unit) × Unit))
def zq120 (rec : R_GrantOf_L13_A → R_GrantOf_L13_B) (x : R_GrantOf_L13_A) : R_GrantOf_L13_B :=
 let v0:=x.1.1.1
 let v1:=x.1.2.1.1
 let v2:=x.1.2.2.1.1
 let v3:=x.1.2.2.2.2.2.2.2.2.1.1
 let v4:=x.1.2.2.2.2.2.2.2.2.2.1.1
 let v5:=x.1.2.2.2.2.2.2.2.2.2.2.1.1
 let v6:=x.2.1
 let v7:=x.2.2.1
 let zz:=x.2.2.2
 let v8:=zz.1.1
 let v9:=zz.1.2.1
 let v10:=zz.1.2.2.1
 let v11:=zz.1.2.2.2.1
 let v12:=zz.2.1.1
 let v13:=zz.2.2.1
 let v14:=zz.2.2.2.1
 let v15:=zz.2.2.2.2.1.1
 br (decide (v5 < lenL v13))
 ((br v4
 (some true)
 (req (zq697 v5 (lenL v13)) <|
 req (zq697 v5 (lenL v13)) <|
 (geti v13 v5).bind fun p1 =>
 some (eqAd p1.ad v15))).bind fun c1 =>
 req (i64ok (v5 + 1)) <|
 rec (((v0,()),(v1,()),(v2,()),(),(),(),(),(),(v3,()),(c1,()),(v5 + 1,()),()),(v6,v7,(v8,v9,v10,v11,()),(v12,()),v13,v14,(v15,()),())))
 (some (((v0,()),(v1,()),(v2,()),(),(),(),(),(),(v3,()),(v4,()),()),(v6,v7,(v8,v9,v10,v11,()),(v12,()),v13,v14,(v15,()),())))
abbrev R_GrantOf_L20_A:=((Unit × Unit × Unit × Unit × Unit × (Bool × Unit) × (Int × Unit) × Unit) × (List Ad × List Ls × (Ad × Unit) × List Ls × List Ls × (Ad × Unit) × (Ls × Unit) × Unit))
abbrev R_GrantOf_L20_B:=Option ((Unit × Unit × Unit × Unit × (Bool × Unit) × Unit) × (List Ad × List Ls × (Ad × Unit) × List Ls × (Ad × Unit) × (Ls × Unit) × Unit))
def zq123 (rec : R_GrantOf_L20_A → R_GrantOf_L20_B) (x : R_GrantOf_L20_A) : R_GrantOf_L20_B :=
 let v0:=x.1.2.2.2.2.2.1.1
 let v1:=x.1.2.2.2.2.2.2.1.1
 let v2:=x.2.1
 let v3:=x.2.2.1
 let v4:=x.2.2.2.1.1
 let zz:=x.2.2.2.2
 let v5:=zz.1
 let v6:=zz.2.1
 let v7:=zz.2.2.1.1
 let v8:=zz.2.2.2.1.1
 br (decide (v1 < lenL v5))
 ((br (!v0)
 (req (zq697 v1 (lenL v5)) <|
 req (zq697 v1 (lenL v5)) <|
 (geti v5 v1).bind fun p1 =>
 (zq155 v7 p1.ad).bind fun y2 =>
 some y2.1)
 (some false)).bind fun c1 =>
 br c1
 (req (room (lenL v6) (lenL ([v8] : List Ls))) <|
 req (zq697 v1 (lenL v5)) <|
 (geti v5 v1).bind fun p2 =>
 req (room (lenL (v6 ++ ([v8] : List Ls))) (lenL ([p2] : List Ls))) <|
 req (i64ok (v1 + 1)) <|
 rec (((),(),(),(),(),(true,()),(v1 + 1,()),()),(v2,v3,(v4,()),v5,(v6 ++ ([v8] : List Ls)) ++ ([p2] : List Ls),(v7,()),(v8,()),())))
 (req (zq697 v1 (lenL v5)) <|
 (geti v5 v1).bind fun p2 =>
 req (room (lenL v6) (lenL ([p2] : List Ls))) <|
 req (i64ok (v1 + 1)) <|
 rec (((),(),(),(),(),(v0,()),(v1 + 1,()),()),(v2,v3,(v4,()),v5,v6 ++ ([p2] : List Ls),(v7,()),(v8,()),()))))
 (some (((),(),(),(),(v0,()),()),(v2,v3,(v4,()),v6,(v7,()),(v8,()),())))
abbrev R_GrantOf_L9_A:=(((ByteArray × Unit) × (Int × Unit) × (Int × Unit) × Unit × Unit × Unit × Unit × Unit × (Int × Unit) × Unit) × (List Ad × List Ls × (Bool × Int × Int × Int × Unit) × (Ad × Unit) × List Ls × List Ls × (Ad × Unit) × Unit))
abbrev R_GrantOf_L9_B:=Option (((Unit × Unit × (Bool × Unit) × Unit) × (List Ad × List Ls × List Ls × (Ad × Unit) × Unit)) ⊕ ((Unit × Unit) × (List Ad × List Ls × (Ad × Unit) × Unit)))
def zq126 (rec : R_GrantOf_L9_A → R_GrantOf_L9_B) (x : R_GrantOf_L9_A) : R_GrantOf_L9_B :=
 let v0:=x.1.1.1
 let v1:=x.1.2.1.1
 let v2:=x.1.2.2.1.1
 let v3:=x.1.2.2.2.2.2.2.2.2.1.1
 let v4:=x.2.1
 let v5:=x.2.2.1
 let zz:=x.2.2.2
 let v6:=zz.1.1
 let v7:=zz.1.2.1
 let v8:=zz.1.2.2.1
 let v9:=zz.1.2.2.2.1
 let v10:=zz.2.1.1
 let v11:=zz.2.2.1
 let v12:=zz.2.2.2.1
 let v13:=zz.2.2.2.2.1.1
 br (decide (v3 < 16))
 ((loopN zq120 FUEL (((v0,()),(v1,()),(v2,()),(),(),(),(),(),(v3,()),(false,()),(0,()),()),(v4,v5,(v6,v7,v8,v9,()),(v10,()),v11,v12,(v13,()),()))).bind fun y1 =>
 (zq140 (⟨(⟨y1.2.2.2.1.1,y1.2.2.2.1.2.1,y1.2.2.2.1.2.2.1⟩ : Ad),y1.2.2.2.1.2.2.2.1⟩ : Pf) y1.2.2.2.2.2.2.2.1.1).bind fun y2 =>
 (br y2.1
 (some (!y1.1.2.2.2.2.2.2.2.2.2.1.1))
 (some false)).bind fun c3 =>
 (br c3
 ((zq249 y1.2.1 y1.2.2.2.2.2.2.2.1.1).bind fun y4 =>
 some (!y4.1))
 (some false)).bind fun c4 =>
 br c4
 (req (i64ok (y1.1.2.1.1 + y1.1.2.2.1.1)) <|
 (loopN zq123 FUEL (((),(),(),(),(),(false,()),(0,()),()),(y1.2.1,y1.2.2.1,(y1.2.2.2.2.1.1,()),y1.2.2.2.2.2.1,y1.2.2.2.2.2.2.1,(y1.2.2.2.2.2.2.2.1.1,()),((⟨y1.2.2.2.2.2.2.2.1.1,y1.1.1.1,y1.1.2.1.1 + y1.1.2.2.1.1⟩ : Ls),()),()))).bind fun y5 =>
 br (!y5.1.2.2.2.2.1.1)
 (req (room (lenL y5.2.2.2.2.1) (lenL ([y5.2.2.2.2.2.2.1.1] : List Ls))) <|
 some (Sum.inl (((),(),(true,()),()),(y5.2.1,y5.2.2.1,y5.2.2.2.2.1 ++ ([y5.2.2.2.2.2.2.1.1] : List Ls),(y5.2.2.2.2.2.1.1,()),()))))
 (some (Sum.inl (((),(),(true,()),()),(y5.2.1,y5.2.2.1,y5.2.2.2.2.1,(y5.2.2.2.2.2.1.1,()),())))))
 ((zq183 y1.2.2.2.2.2.2.2.1.1).bind fun y5 =>
 br (!y5.2.1)
 (some (Sum.inr ((((),()),(y1.2.1,y1.2.2.1,(y1.2.2.2.2.1.1,()),())))))
 (req (i64ok (y1.1.2.2.2.2.2.2.2.2.1.1 + 1)) <|
 rec (((y1.1.1.1,()),(y1.1.2.1.1,()),(y1.1.2.2.1.1,()),(),(),(),(),(),(y1.1.2.2.2.2.2.2.2.2.1.1 + 1,()),()),(y1.2.1,y1.2.2.1,(y1.2.2.2.1.1,y1.2.2.2.1.2.1,y1.2.2.2.1.2.2.1,y1.2.2.2.1.2.2.2.1,()),(y1.2.2.2.2.1.1,()),y1.2.2.2.2.2.1,y1.2.2.2.2.2.2.1,(y5.1,()),())))))
 (some (Sum.inr ((((),()),(v4,v5,(v10,()),())))))
def zq134 (a0 : Pf) (a1 : List Ad) (a2 : List Ls) (a3 : ByteArray) (a4 : Int) (a5 : Int) : Option ((List Ls) × Ad × Bool × Unit) :=
 (zq179 a2 a4).bind fun y1 =>
 (zq234 y1.1 a3).bind fun y2 =>
 br (decide (y2.1 ≥ 0))
 (req (i64ok (a4 + a5)) <|
 req (zq697 y2.1 (lenL y1.1)) <|
 req (zq697 y2.1 (lenL y1.1)) <|
 (geti y1.1 y2.1).bind fun p3 =>
 req (zq697 y2.1 (lenL (seti y1.1 y2.1 (⟨p3.ad,p3.who,a4 + a5⟩ : Ls)))) <|
 req (zq697 y2.1 (lenL (seti y1.1 y2.1 (⟨p3.ad,p3.who,a4 + a5⟩ : Ls)))) <|
 (geti (seti y1.1 y2.1 (⟨p3.ad,p3.who,a4 + a5⟩ : Ls)) y2.1).bind fun p4 =>
 some (seti y1.1 y2.1 (⟨p3.ad,p3.who,a4 + a5⟩ : Ls),p4.ad,true,()))
 ((loopN zq126 FUEL (((a3,()),(a4,()),(a5,()),(()),(()),(()),(()),(()),(0,()),()),(a1,a2,(a0.ad.v6,a0.ad.hi,a0.ad.lo,a0.bits,()),((⟨false,0,0⟩ : Ad),()),y1.1,([] : List Ls),(a0.ad,()),()))).bind fun y3 =>
 sumC y3 (fun y4 =>
 some (y4.2.2.2.1,y4.2.2.2.2.1.1,y4.1.2.2.1.1,())) (fun y5 =>
 some (([] : List Ls),(⟨false,0,0⟩ : Ad),false,())))
abbrev R_DoOf_L10_A:=((Unit × Unit × Unit × Unit × Unit × (Bool × Unit) × (Int × Unit) × Unit) × (List (List Ad) × List Pf × List Ls × Unit × (Int × Unit) × (Oq × Unit) × (Int × Unit) × (Ad × Unit) × (Int × Unit) × List Pf × List Ls × List Pf × List (List Ad) × List (List Ad) × Unit))
abbrev R_DoOf_L10_B:=Option (((Unit × Unit × (Int × Unit) × Unit) × (List (List Ad) × List Pf × List Ls × Unit × (Int × Unit) × (Ad × Unit) × List Pf × List Ls × List (List Ad) × Unit)) ⊕ ((Unit × Unit × Unit × Unit × (Bool × Unit) × Unit) × (List (List Ad) × List Pf × List Ls × Unit × (Oq × Unit) × (Int × Unit) × (Ad × Unit) × (Int × Unit) × List Pf × List Ls × List Pf × List (List Ad) × List (List Ad) × Unit)))
def zq96 (rec : R_DoOf_L10_A → R_DoOf_L10_B) (x : R_DoOf_L10_A) : R_DoOf_L10_B :=
 let v0:=x.1.2.2.2.2.2.1.1
 let v1:=x.1.2.2.2.2.2.2.1.1
 let v2:=x.2.1
 let v3:=x.2.2.1
 let v4:=x.2.2.2.1
 let v5:=x.2.2.2.2.2.1.1
 let v6:=x.2.2.2.2.2.2.1.1
 let zz:=x.2.2.2.2.2.2.2
 let v7:=zz.1.1
 let v8:=zz.2.1.1
 let v9:=zz.2.2.1.1
 let v10:=zz.2.2.2.1
 let v11:=zz.2.2.2.2.1
 let v12:=zz.2.2.2.2.2.1
 let v13:=zz.2.2.2.2.2.2.1
 let v14:=zz.2.2.2.2.2.2.2.1
 br (decide (v1 < lenL v3))
 (req (zq697 v1 (lenL v3)) <|
 req (zq697 v1 (lenL v3)) <|
 (geti v3 v1).bind fun p1 =>
 (zq95 p1 v6.pf).bind fun y2 =>
 br y2.1
 (some (Sum.inl (((),(),(6,()),()),(v2,v3,v4,(),(0,()),((⟨false,0,0⟩ : Ad),()),[],[],[],()))))
 ((br (!v0)
 (req (zq697 v1 (lenL v3)) <|
 req (zq697 v1 (lenL v3)) <|
 (geti v3 v1).bind fun p3 =>
 (zq198 v6.pf p3).bind fun y4 =>
 some y4.1)
 (some false)).bind fun c3 =>
 br c3
 (req (room (lenL v12) (lenL ([v6.pf] : List Pf))) <|
 req (zq697 v1 (lenL v3)) <|
 (geti v3 v1).bind fun p4 =>
 both
 (dup 1 <|
 req (room (lenL (v12 ++ ([v6.pf] : List Pf))) (lenL ([p4] : List Pf))) <|
 req (i64ok (v1 + 1)) <|
 rec (((),(),(),(),(),(true,()),(v1 + 1,()),()),(v2,v3,v4,(),(v5,()),(v6,()),(v7,()),(v8,()),(v9,()),v10,v11,(v12 ++ ([v6.pf] : List Pf)) ++ ([p4] : List Pf),v13,padL (v12 ++ ([v6.pf] : List Pf)).length (padL v12.length v14 ++ ([[]] : List (List Ad))) ++ ([getL v2 v1] : List (List Ad)),())))
 (req (room (lenL (v12 ++ ([v6.pf] : List Pf))) (lenL ([p4] : List Pf))) <|
 req (i64ok (v1 + 1)) <|
 rec (((),(),(),(),(),(true,()),(v1 + 1,()),()),(v2,v3,v4,(),(v5,()),(v6,()),(v7,()),(v8,()),(v9,()),v10,v11,(v12 ++ ([v6.pf] : List Pf)) ++ ([p4] : List Pf),v13,padL (v12 ++ ([v6.pf] : List Pf)).length (padL v12.length v14 ++ ([[]] : List (List Ad))) ++ ([getL v2 v1] : List (List Ad)),()))))
 (req (zq697 v1 (lenL v3)) <|
 (geti v3 v1).bind fun p4 =>
 both
 (dup 1 <|
 req (room (lenL v12) (lenL ([p4] : List Pf))) <|
 req (i64ok (v1 + 1)) <|
 rec (((),(),(),(),(),(v0,()),(v1 + 1,()),()),(v2,v3,v4,(),(v5,()),(v6,()),(v7,()),(v8,()),(v9,()),v10,v11,v12 ++ ([p4] : List Pf),v13,padL v12.length v14 ++ ([getL v2 v1] : List (List Ad)),())))
 (req (room (lenL v12) (lenL ([p4] : List Pf))) <|
 req (i64ok (v1 + 1)) <|
 rec (((),(),(),(),(),(v0,()),(v1 + 1,()),()),(v2,v3,v4,(),(v5,()),(v6,()),(v7,()),(v8,()),(v9,()),v10,v11,v12 ++ ([p4] : List Pf),v13,padL v12.length v14 ++ ([getL v2 v1] : List (List Ad)),()))))))
 (some (Sum.inr ((((),(),(),(),(v0,()),()),(v2,v3,v4,(),(v6,()),(v7,()),(v8,()),(v9,()),v10,v11,v12,v13,v14,())))))
abbrev R_DoOf_L33_A:=((Unit × Unit × Unit × Unit × (Int × Unit) × Unit × (Int × Unit) × Unit) × (List (List Ad) × List Pf × List Ls × Unit × (Int × Unit) × (Int × Unit) × (Ad × Unit) × (Int × Unit) × List Ad × List Pf × List Ls × List (List Ad) × Unit))
abbrev R_DoOf_L33_B:=Option ((Unit × Unit × Unit × Unit × (Int × Unit) × Unit × Unit) × (List (List Ad) × List Pf × List Ls × Unit × (Int × Unit) × (Int × Unit) × (Ad × Unit) × (Int × Unit) × List Ad × List Pf × List Ls × List (List Ad) × Unit))
def zq99 (rec : R_DoOf_L33_A → R_DoOf_L33_B) (x : R_DoOf_L33_A) : R_DoOf_L33_B :=
 let v0:=x.1.2.2.2.2.1.1
 let v1:=x.1.2.2.2.2.2.2.1.1
 let v2:=x.2.1
 let v3:=x.2.2.1
 let v4:=x.2.2.2.1
 let v5:=x.2.2.2.2.2.1.1
 let zz:=x.2.2.2.2.2.2
 let v6:=zz.1.1
 let v7:=zz.2.1.1
 let v8:=zz.2.2.1.1
 let v9:=zz.2.2.2.1
 let v10:=zz.2.2.2.2.1
 let v11:=zz.2.2.2.2.2.1
 let v12:=zz.2.2.2.2.2.2.1
 (br (decide (v1 > 0))
 (req (zq697 v1 (lenL v9)) <|
 (geti v9 v1).bind fun p1 =>
 req (i64ok (v1 - 1)) <|
 req (zq697 (v1 - 1) (lenL v9)) <|
 (geti v9 (v1 - 1)).bind fun p2 =>
 (zq155 p1 p2).bind fun y3 =>
 some y3.1)
 (some false)).bind fun c1 =>
 br c1
 (req (i64ok (v1 - 1)) <|
 req (i64ok (v1 - 1)) <|
 req (zq697 (v1 - 1) (lenL v9)) <|
 (geti v9 (v1 - 1)).bind fun p2 =>
 req (zq697 v1 (lenL v9)) <|
 (geti v9 v1).bind fun p3 =>
 req (zq697 v1 (lenL v9)) <|
 (geti v9 v1).bind fun p4 =>
 req (zq697 (v1 - 1) (lenL (seti v9 v1 p2))) <|
 (geti (seti v9 v1 p2) (v1 - 1)).bind fun p5 =>
 req (i64ok (v1 - 1)) <|
 rec (((),(),(),(),(v0,()),(),(v1 - 1,()),()),(v2,v3,v4,(),(v5,()),(v6,()),(v7,()),(v8,()),seti (seti v9 v1 p2) (v1 - 1) p3,v10,v11,v12,())))
 (some (((),(),(),(),(v0,()),(),()),(v2,v3,v4,(),(v5,()),(v6,()),(v7,()),(v8,()),v9,v10,v11,v12,())))
abbrev R_DoOf_L48_A:=((Unit × Unit × Unit × Unit × Unit × Unit × Unit × (Int × Unit) × Unit) × (List (List Ad) × List Pf × List Ls × Unit × (Int × Unit) × (Oq × Unit) × (Int × Unit) × (Ad × Unit) × (Int × Unit) × (Bool × Int × Int × Int × Int × Unit) × List Ls × List Pf × List Ls × List (List Ad) × Unit))
abbrev R_DoOf_L48_B:=Option ((Unit × Unit × Unit × Unit × Unit × Unit × Unit × Unit) × (List (List Ad) × List Pf × List Ls × Unit × (Int × Unit) × (Oq × Unit) × (Int × Unit) × (Ad × Unit) × (Int × Unit) × (Bool × Int × Int × Int × Int × Unit) × List Ls × List Pf × List Ls × List (List Ad) × Unit))
def zq102 (rec : R_DoOf_L48_A → R_DoOf_L48_B) (x : R_DoOf_L48_A) : R_DoOf_L48_B :=
 let v0:=x.1.2.2.2.2.2.2.2.1.1
 let v1:=x.2.1
 let v2:=x.2.2.1
 let v3:=x.2.2.2.1
 let v4:=x.2.2.2.2.2.1.1
 let v5:=x.2.2.2.2.2.2.1.1
 let v6:=x.2.2.2.2.2.2.2.1.1
 let v7:=x.2.2.2.2.2.2.2.2.1.1
 let zz:=x.2.2.2.2.2.2.2.2.2
 let v8:=zz.1.1
 let v9:=zz.2.1.1
 let v10:=zz.2.1.2.1
 let v11:=zz.2.1.2.2.1
 let v12:=zz.2.1.2.2.2.1
 let v13:=zz.2.1.2.2.2.2.1
 let v14:=zz.2.2.1
 let v15:=zz.2.2.2.1
 let v16:=zz.2.2.2.2.1
 let v17:=zz.2.2.2.2.2.1
 br (decide (v0 < lenL v3))
 (req (zq697 v0 (lenL v3)) <|
 req (zq697 v0 (lenL v3)) <|
 (geti v3 v0).bind fun p1 =>
 (zq140 (⟨(⟨v9,v10,v11⟩ : Ad),v12⟩ : Pf) p1.ad).bind fun y2 =>
 br y2.1
 (req (zq697 v0 (lenL v3)) <|
 (geti v3 v0).bind fun p3 =>
 req (room (lenL v14) (lenL ([p3] : List Ls))) <|
 req (i64ok (v0 + 1)) <|
 rec (((),(),(),(),(),(),(),(v0 + 1,()),()),(v1,v2,v3,(),(v4,()),(v5,()),(v6,()),(v7,()),(v8,()),(v9,v10,v11,v12,v13,()),v14 ++ ([p3] : List Ls),v15,v16,v17,())))
 (req (i64ok (v0 + 1)) <|
 rec (((),(),(),(),(),(),(),(v0 + 1,()),()),(v1,v2,v3,(),(v4,()),(v5,()),(v6,()),(v7,()),(v8,()),(v9,v10,v11,v12,v13,()),v14,v15,v16,v17,()))))
 (some (((),(),(),(),(),(),(),()),(v1,v2,v3,(),(v4,()),(v5,()),(v6,()),(v7,()),(v8,()),(v9,v10,v11,v12,v13,()),v14,v15,v16,v17,())))
abbrev R_DoOf_L57_A:=((Unit × Unit × Unit × Unit × Unit × Unit × Unit × (Int × Unit) × Unit) × (List (List Ad) × List Pf × List Ls × Unit × (Int × Unit) × (Int × Unit) × (Ad × Unit) × (Int × Unit) × (Bool × Int × Int × Int × Int × Unit) × List Ls × (Ad × Unit) × List Pf × List Ls × List Ls × List (List Ad) × Unit))
abbrev R_DoOf_L57_B:=Option ((Unit × Unit × Unit × Unit × Unit × Unit) × (List (List Ad) × List Pf × List Ls × Unit × (Int × Unit) × (Ad × Unit) × (Int × Unit) × List Ls × (Ad × Unit) × List Pf × List Ls × List Ls × List (List Ad) × Unit))
def zq105 (rec : R_DoOf_L57_A → R_DoOf_L57_B) (x : R_DoOf_L57_A) : R_DoOf_L57_B :=
 let v0:=x.1.2.2.2.2.2.2.2.1.1
 let v1:=x.2.1
 let v2:=x.2.2.1
 let v3:=x.2.2.2.1
 let v4:=x.2.2.2.2.2.1.1
 let v5:=x.2.2.2.2.2.2.1.1
 let v6:=x.2.2.2.2.2.2.2.1.1
 let v7:=x.2.2.2.2.2.2.2.2.1.1
 let zz:=x.2.2.2.2.2.2.2.2.2
 let v8:=zz.1.1
 let v9:=zz.1.2.1
 let v10:=zz.1.2.2.1
 let v11:=zz.1.2.2.2.1
 let v12:=zz.1.2.2.2.2.1
 let v13:=zz.2.1
 let v14:=zz.2.2.1.1
 let v15:=zz.2.2.2.1
 let v16:=zz.2.2.2.2.1
 let v17:=zz.2.2.2.2.2.1
 let v18:=zz.2.2.2.2.2.2.1
 br (decide (v0 < lenL v3))
 (req (zq697 v0 (lenL v3)) <|
 req (zq697 v0 (lenL v3)) <|
 (geti v3 v0).bind fun p1 =>
 (zq140 (⟨(⟨v8,v9,v10⟩ : Ad),v11⟩ : Pf) p1.ad).bind fun y2 =>
 br (!y2.1)
 (req (zq697 v0 (lenL v3)) <|
 (geti v3 v0).bind fun p3 =>
 req (room (lenL v17) (lenL ([p3] : List Ls))) <|
 req (i64ok (v0 + 1)) <|
 rec (((),(),(),(),(),(),(),(v0 + 1,()),()),(v1,v2,v3,(),(v4,()),(v5,()),(v6,()),(v7,()),(v8,v9,v10,v11,v12,()),v13,(v14,()),v15,v16,v17 ++ ([p3] : List Ls),v18,())))
 (req (i64ok (v0 + 1)) <|
 rec (((),(),(),(),(),(),(),(v0 + 1,()),()),(v1,v2,v3,(),(v4,()),(v5,()),(v6,()),(v7,()),(v8,v9,v10,v11,v12,()),v13,(v14,()),v15,v16,v17,v18,()))))
 (some (((),(),(),(),(),()),(v1,v2,v3,(),(v5,()),(v6,()),(v7,()),v13,(v14,()),v15,v16,v17,v18,())))
abbrev R_DoOf_L66_A:=((Unit × Unit × Unit × Unit × Unit × (Int × Unit) × (Int × Unit) × Unit) × (List (List Ad) × List Pf × List Ls × Unit × (Int × Unit) × (Ad × Unit) × (Int × Unit) × List Ls × (Ad × Unit) × List Pf × List Ls × List Ls × List (List Ad) × Unit))
abbrev R_DoOf_L66_B:=Option ((Unit × Unit × Unit × Unit × Unit × (Int × Unit) × Unit) × (List (List Ad) × List Pf × List Ls × Unit × (Int × Unit) × (Ad × Unit) × (Int × Unit) × List Ls × (Ad × Unit) × List Pf × List Ls × List Ls × List (List Ad) × Unit))
def zq111 (rec : R_DoOf_L66_A → R_DoOf_L66_B) (x : R_DoOf_L66_A) : R_DoOf_L66_B :=
 let v0:=x.1.2.2.2.2.2.1.1
 let v1:=x.1.2.2.2.2.2.2.1.1
 let v2:=x.2.1
 let v3:=x.2.2.1
 let v4:=x.2.2.2.1
 let v5:=x.2.2.2.2.2.1.1
 let v6:=x.2.2.2.2.2.2.1.1
 let zz:=x.2.2.2.2.2.2.2
 let v7:=zz.1.1
 let v8:=zz.2.1
 let v9:=zz.2.2.1.1
 let v10:=zz.2.2.2.1
 let v11:=zz.2.2.2.2.1
 let v12:=zz.2.2.2.2.2.1
 let v13:=zz.2.2.2.2.2.2.1
 (br (decide (v1 > 0))
 (req (zq697 v1 (lenL v12)) <|
 req (zq697 v1 (lenL v12)) <|
 (geti v12 v1).bind fun p1 =>
 req (i64ok (v1 - 1)) <|
 req (zq697 (v1 - 1) (lenL v12)) <|
 req (zq697 (v1 - 1) (lenL v12)) <|
 (geti v12 (v1 - 1)).bind fun p2 =>
 (zq155 p1.ad p2.ad).bind fun y3 =>
 some y3.1)
 (some false)).bind fun c1 =>
 br c1
 (req (i64ok (v1 - 1)) <|
 req (i64ok (v1 - 1)) <|
 req (zq697 (v1 - 1) (lenL v12)) <|
 (geti v12 (v1 - 1)).bind fun p2 =>
 req (zq697 v1 (lenL v12)) <|
 (geti v12 v1).bind fun p3 =>
 req (zq697 v1 (lenL v12)) <|
 both
 (dup 1 <|
 (geti v12 v1).bind fun p4 =>
 req (zq697 (v1 - 1) (lenL (seti v12 v1 p2))) <|
 (geti (seti v12 v1 p2) (v1 - 1)).bind fun p5 =>
 req (i64ok (v1 - 1)) <|
 rec (((),(),(),(),(),(v0,()),(v1 - 1,()),()),(v2,v3,v4,(),(v5,()),(v6,()),(v7,()),v8,(v9,()),v10,v11,seti (seti v12 v1 p2) (v1 - 1) p3,v13,())))
 ((geti v12 v1).bind fun p4 =>
 req (zq697 (v1 - 1) (lenL (seti v12 v1 p2))) <|
 (geti (seti v12 v1 p2) (v1 - 1)).bind fun p5 =>
 req (i64ok (v1 - 1)) <|
 rec (((),(),(),(),(),(v0,()),(v1 - 1,()),()),(v2,v3,v4,(),(v5,()),(v6,()),(v7,()),v8,(v9,()),v10,v11,seti (seti v12 v1 p2) (v1 - 1) p3,v13,()))))
 (some (((),(),(),(),(),(v0,()),()),(v2,v3,v4,(),(v5,()),(v6,()),(v7,()),v8,(v9,()),v10,v11,v12,v13,())))
abbrev R_DoOf_L62_A:=((Unit × Unit × Unit × Unit × Unit × (Int × Unit) × Unit) × (List (List Ad) × List Pf × List Ls × Unit × (Int × Unit) × (Ad × Unit) × (Int × Unit) × List Ls × (Ad × Unit) × List Pf × List Ls × List Ls × List (List Ad) × Unit))
abbrev R_DoOf_L62_B:=Option ((Unit × Unit × Unit × Unit × Unit) × (List (List Ad) × List Pf × List Ls × Unit × (Int × Unit) × (Ad × Unit) × (Int × Unit) × (Ad × Unit) × List Pf × List Ls × List Ls × List (List Ad) × Unit))
def zq108 (rec : R_DoOf_L62_A → R_DoOf_L62_B) (x : R_DoOf_L62_A) : R_DoOf_L62_B :=
 let v0:=x.1.2.2.2.2.2.1.1
 let v1:=x.2.1
 let v2:=x.2.2.1
 let v3:=x.2.2.2.1
 let v4:=x.2.2.2.2.2.1.1
 let v5:=x.2.2.2.2.2.2.1.1
 let zz:=x.2.2.2.2.2.2.2
 let v6:=zz.1.1
 let v7:=zz.2.1
 let v8:=zz.2.2.1.1
 let v9:=zz.2.2.2.1
 let v10:=zz.2.2.2.2.1
 let v11:=zz.2.2.2.2.2.1
 let v12:=zz.2.2.2.2.2.2.1
 br (decide (v0 < lenL v7))
 (req (zq697 v0 (lenL v7)) <|
 (geti v7 v0).bind fun p1 =>
 req (room (lenL v11) (lenL ([p1] : List Ls))) <|
 req (i64ok ((lenL (v11 ++ ([p1] : List Ls))) - 1)) <|
 (loopN zq111 FUEL (((),(),(),(),(),(v0,()),((lenL (v11 ++ ([p1] : List Ls))) - 1,()),()),(v1,v2,v3,(),(v4,()),(v5,()),(v6,()),v7,(v8,()),v9,v10,v11 ++ ([p1] : List Ls),v12,()))).bind fun y2 =>
 req (i64ok (y2.1.2.2.2.2.2.1.1 + 1)) <|
 rec (((),(),(),(),(),(y2.1.2.2.2.2.2.1.1 + 1,()),()),(y2.2.1,y2.2.2.1,y2.2.2.2.1,(),(y2.2.2.2.2.2.1.1,()),(y2.2.2.2.2.2.2.1.1,()),(y2.2.2.2.2.2.2.2.1.1,()),y2.2.2.2.2.2.2.2.2.1,(y2.2.2.2.2.2.2.2.2.2.1.1,()),y2.2.2.2.2.2.2.2.2.2.2.1,y2.2.2.2.2.2.2.2.2.2.2.2.1,y2.2.2.2.2.2.2.2.2.2.2.2.2.1,y2.2.2.2.2.2.2.2.2.2.2.2.2.2.1,())))
 (some (((),(),(),(),()),(v1,v2,v3,(),(v4,()),(v5,()),(v6,()),(v8,()),v9,v10,v11,v12,())))
def zq119 (a0 : List Pf × List (List Ad)) (a1 : List Ls) (a2 : Int) (a3 : Oq) : Option (((List Pf × List (List Ad)) × (List Ls) × Int × Unit) × Ad × Int × Unit) :=
 (zq53 a3).bind fun y1 =>
 br (!decide (y1.1 = 0))
 (some (((([] : List Pf),([] : List (List Ad))),([] : List Ls),0,()),(⟨false,0,0⟩ : Ad),y1.1,()))
 (br (decide (a3.kind = 1))
 ((loopN zq96 FUEL (((()),(()),(()),(()),(()),(false,()),(0,()),()),(a0.2,a0.1,a1,(),(a2,()),(a3,()),(0,()),((⟨false,0,0⟩ : Ad),()),(a2,()),([] : List Pf),([] : List Ls),([] : List Pf),([] : List (List Ad)),([] : List (List Ad)),()))).bind fun y2 =>
 sumC y2 (fun y3 =>
 some (((y3.2.2.2.2.2.2.2.1,y3.2.2.2.2.2.2.2.2.2.1),y3.2.2.2.2.2.2.2.2.1,y3.2.2.2.2.2.1.1,()),y3.2.2.2.2.2.2.1.1,y3.1.2.2.1.1,())) (fun y4 =>
 br (!y4.1.2.2.2.2.1.1)
 (req (room (lenL y4.2.2.2.2.2.2.2.2.2.2.2.1) (lenL ([y4.2.2.2.2.2.1.1.pf] : List Pf))) <|
 br (decide (lenL (y4.2.2.2.2.2.2.2.2.2.2.2.1 ++ ([y4.2.2.2.2.2.1.1.pf] : List Pf)) > 3))
 (some (((([] : List Pf),([] : List (List Ad))),([] : List Ls),0,()),(⟨false,0,0⟩ : Ad),2,()))
 (some (((y4.2.2.2.2.2.2.2.2.2.2.2.1 ++ ([y4.2.2.2.2.2.1.1.pf] : List Pf),padL y4.2.2.2.2.2.2.2.2.2.2.2.1.length y4.2.2.2.2.2.2.2.2.2.2.2.2.2.1 ++ ([([] : List Ad)] : List (List Ad))),y4.2.2.2.1,y4.2.2.2.2.2.2.2.2.1.1,()),(⟨false,0,0⟩ : Ad),0,())))
 (br (decide (lenL y4.2.2.2.2.2.2.2.2.2.2.2.1 > 3))
 (some (((([] : List Pf),([] : List (List Ad))),([] : List Ls),0,()),(⟨false,0,0⟩ : Ad),2,()))
 (some (((y4.2.2.2.2.2.2.2.2.2.2.2.1,y4.2.2.2.2.2.2.2.2.2.2.2.2.2.1),y4.2.2.2.1,y4.2.2.2.2.2.2.2.2.1.1,()),(⟨false,0,0⟩ : Ad),0,())))))
 (br (decide (a3.kind = 2))
 ((zq192 a0 a1 a2 a3.ad).bind fun y2 =>
 br (decide (y2.1 < 0))
 (some (((([] : List Pf),([] : List (List Ad))),([] : List Ls),0,()),(⟨false,0,0⟩ : Ad),5,()))
 (req (zq697 y2.1 (lenL a0.1)) <|
 req (zq697 y2.1 (lenL a0.1)) <|
 (geti a0.1 y2.1).bind fun p3 =>
 (zq249 (getL a0.2 y2.1) a3.ad).bind fun y4 =>
 br y4.1
 (some (((([] : List Pf),([] : List (List Ad))),([] : List Ls),0,()),(⟨false,0,0⟩ : Ad),6,()))
 (req (zq697 y2.1 (lenL a0.1)) <|
 req (zq697 y2.1 (lenL a0.1)) <|
 (geti a0.1 y2.1).bind fun p5 =>
 br (decide (lenL (getL a0.2 y2.1) = 6))
 (some (((([] : List Pf),([] : List (List Ad))),([] : List Ls),0,()),(⟨false,0,0⟩ : Ad),2,()))
 (req (zq697 y2.1 (lenL a0.1)) <|
 req (zq697 y2.1 (lenL a0.1)) <|
 (geti a0.1 y2.1).bind fun p6 =>
 both
 (dup 1 <|
 req (room (lenL ([] : List Ad)) (lenL (getL a0.2 y2.1))) <|
 req (room (lenL (([] : List Ad) ++ (getL a0.2 y2.1))) (lenL ([a3.ad] : List Ad))) <|
 req (i64ok ((lenL ((([] : List Ad) ++ (getL a0.2 y2.1)) ++ ([a3.ad] : List Ad))) - 1)) <|
 (loopN zq99 FUEL (((()),(()),(()),(()),(y2.1,()),(()),((lenL ((([] : List Ad) ++ (getL a0.2 y2.1)) ++ ([a3.ad] : List Ad))) - 1,()),()),(a0.2,a0.1,a1,(),(a2,()),(0,()),((⟨false,0,0⟩ : Ad),()),(a2,()),(([] : List Ad) ++ (getL a0.2 y2.1)) ++ ([a3.ad] : List Ad),([] : List Pf),([] : List Ls),([] : List (List Ad)),()))).bind fun y7 =>
 req (room (lenL ([] : List Pf)) (lenL y7.2.2.1)) <|
 req (zq697 y7.1.2.2.2.2.1.1 (lenL (([] : List Pf) ++ y7.2.2.1))) <|
 req (zq697 y7.1.2.2.2.2.1.1 (lenL (([] : List Pf) ++ y7.2.2.1))) <|
 (geti (([] : List Pf) ++ y7.2.2.1) y7.1.2.2.2.2.1.1).bind fun p8 =>
 some (((seti (([] : List Pf) ++ y7.2.2.1) y7.1.2.2.2.2.1.1 p8,seti (padL (([] : List Pf) ++ y7.2.2.1).length (padL ([] : List Pf).length ([] : List (List Ad)) ++ y7.2.1)) y7.1.2.2.2.2.1.1 y7.2.2.2.2.2.2.2.2.2.1),y7.2.2.2.1,y7.2.2.2.2.2.2.2.2.1.1,()),(⟨false,0,0⟩ : Ad),0,()))
 (req (room (lenL ([] : List Ad)) (lenL (getL a0.2 y2.1))) <|
 req (room (lenL (([] : List Ad) ++ (getL a0.2 y2.1))) (lenL ([a3.ad] : List Ad))) <|
 req (i64ok ((lenL ((([] : List Ad) ++ (getL a0.2 y2.1)) ++ ([a3.ad] : List Ad))) - 1)) <|
 (loopN zq99 FUEL (((()),(()),(()),(()),(y2.1,()),(()),((lenL ((([] : List Ad) ++ (getL a0.2 y2.1)) ++ ([a3.ad] : List Ad))) - 1,()),()),(a0.2,a0.1,a1,(),(a2,()),(0,()),((⟨false,0,0⟩ : Ad),()),(a2,()),(([] : List Ad) ++ (getL a0.2 y2.1)) ++ ([a3.ad] : List Ad),([] : List Pf),([] : List Ls),([] : List (List Ad)),()))).bind fun y7 =>
 req (room (lenL ([] : List Pf)) (lenL y7.2.2.1)) <|
 req (zq697 y7.1.2.2.2.2.1.1 (lenL (([] : List Pf) ++ y7.2.2.1))) <|
 req (zq697 y7.1.2.2.2.2.1.1 (lenL (([] : List Pf) ++ y7.2.2.1))) <|
 (geti (([] : List Pf) ++ y7.2.2.1) y7.1.2.2.2.2.1.1).bind fun p8 =>
 some (((seti (([] : List Pf) ++ y7.2.2.1) y7.1.2.2.2.2.1.1 p8,seti (padL (([] : List Pf) ++ y7.2.2.1).length (padL ([] : List Pf).length ([] : List (List Ad)) ++ y7.2.1)) y7.1.2.2.2.2.1.1 y7.2.2.2.2.2.2.2.2.2.1),y7.2.2.2.1,y7.2.2.2.2.2.2.2.2.1.1,()),(⟨false,0,0⟩ : Ad),0,()))))))
 (br (decide (a3.kind = 3))
 (br (decide (a3.of_ ≥ lenL a0.1))
 (some (((([] : List Pf),([] : List (List Ad))),([] : List Ls),0,()),(⟨false,0,0⟩ : Ad),5,()))
 (req (zq697 a3.of_ (lenL a0.1)) <|
 (geti a0.1 a3.of_).bind fun p2 =>
 (zq234 a1 a3.who).bind fun y3 =>
 (br (decide (y3.1 ≥ 0))
 (req (zq697 y3.1 (lenL a1)) <|
 req (zq697 y3.1 (lenL a1)) <|
 (geti a1 y3.1).bind fun p4 =>
 (zq140 p2 p4.ad).bind fun y5 =>
 some (!y5.1))
 (some false)).bind fun c4 =>
 br c4
 (some (((([] : List Pf),([] : List (List Ad))),([] : List Ls),0,()),(⟨false,0,0⟩ : Ad),6,()))
 ((loopN zq102 FUEL (((()),(()),(()),(()),(()),(()),(()),(0,()),()),(a0.2,a0.1,a1,(),(a2,()),(a3,()),(0,()),((⟨false,0,0⟩ : Ad),()),(a2,()),(p2.ad.v6,p2.ad.hi,p2.ad.lo,p2.bits,a3.of_,()),([] : List Ls),([] : List Pf),([] : List Ls),([] : List (List Ad)),()))).bind fun y5 =>
 (zq134 (⟨(⟨y5.2.2.2.2.2.2.2.2.2.2.1.1,y5.2.2.2.2.2.2.2.2.2.2.1.2.1,y5.2.2.2.2.2.2.2.2.2.2.1.2.2.1⟩ : Ad),y5.2.2.2.2.2.2.2.2.2.2.1.2.2.2.1⟩ : Pf) (getL y5.2.1 y5.2.2.2.2.2.2.2.2.2.2.1.2.2.2.2.1) y5.2.2.2.2.2.2.2.2.2.2.2.1 y5.2.2.2.2.2.2.1.1.who y5.2.2.2.2.2.1.1 y5.2.2.2.2.2.2.1.1.n).bind fun y6 =>
 br (!y6.2.2.1)
 (some (((([] : List Pf),([] : List (List Ad))),([] : List Ls),0,()),(⟨false,0,0⟩ : Ad),8,()))
 ((loopN zq105 FUEL (((()),(()),(()),(()),(()),(()),(()),(0,()),()),(y5.2.1,y5.2.2.1,y5.2.2.2.1,(),(y5.2.2.2.2.2.1.1,()),(y5.2.2.2.2.2.2.2.1.1,()),(y5.2.2.2.2.2.2.2.2.1.1,()),(y5.2.2.2.2.2.2.2.2.2.1.1,()),(y5.2.2.2.2.2.2.2.2.2.2.1.1,y5.2.2.2.2.2.2.2.2.2.2.1.2.1,y5.2.2.2.2.2.2.2.2.2.2.1.2.2.1,y5.2.2.2.2.2.2.2.2.2.2.1.2.2.2.1,y5.2.2.2.2.2.2.2.2.2.2.1.2.2.2.2.1,()),y6.1,(y6.2.1,()),y5.2.2.2.2.2.2.2.2.2.2.2.2.1,y5.2.2.2.2.2.2.2.2.2.2.2.2.2.1,([] : List Ls),y5.2.2.2.2.2.2.2.2.2.2.2.2.2.2.1,()))).bind fun y7 =>
 (loopN zq108 FUEL (((()),(()),(()),(()),(()),(0,()),()),(y7.2.1,y7.2.2.1,y7.2.2.2.1,(),(y7.2.2.2.2.2.1.1,()),(y7.2.2.2.2.2.2.1.1,()),(y7.2.2.2.2.2.2.2.1.1,()),y7.2.2.2.2.2.2.2.2.1,(y7.2.2.2.2.2.2.2.2.2.1.1,()),y7.2.2.2.2.2.2.2.2.2.2.1,y7.2.2.2.2.2.2.2.2.2.2.2.1,y7.2.2.2.2.2.2.2.2.2.2.2.2.1,y7.2.2.2.2.2.2.2.2.2.2.2.2.2.1,()))).bind fun y8 =>
 br (decide (lenL y8.2.2.2.2.2.2.2.2.2.2.2.1 > 20))
 (some (((([] : List Pf),([] : List (List Ad))),([] : List Ls),0,()),(⟨false,0,0⟩ : Ad),2,()))
 (some (((y8.2.2.1,y8.2.1),y8.2.2.2.2.2.2.2.2.2.2.2.1,y8.2.2.2.2.2.2.2.1.1,()),y8.2.2.2.2.2.2.2.2.1.1,0,()))))))
 (br (decide (a3.kind = 4))
 ((zq234 a1 a3.who).bind fun y2 =>
 br (decide (y2.1 < 0))
 (some (((([] : List Pf),([] : List (List Ad))),([] : List Ls),0,()),(⟨false,0,0⟩ : Ad),5,()))
 (req (i64ok (y2.1 + 1)) <|
 both
 (both
 (req ((decide (0 ≤ y2.1)) && (decide (y2.1 ≤ lenL a1))) <|
 both
 (req (room (lenL ([] : List Ls)) (lenL (subL a1 0 y2.1))) <|
 req (((decide (0 ≤ y2.1 + 1)) && (decide (y2.1 + 1 ≤ lenL a1))) && (decide (lenL a1 ≤ lenL a1))) <|
 req (room (lenL (([] : List Ls) ++ (subL a1 0 y2.1))) (lenL (subL a1 (y2.1 + 1) (lenL a1)))) <|
 req (zq697 y2.1 (lenL a1)) <|
 req (zq697 y2.1 (lenL a1)) <|
 (geti a1 y2.1).bind fun p3 =>
 some ((a0,(([] : List Ls) ++ (subL a1 0 y2.1)) ++ (subL a1 (y2.1 + 1) (lenL a1)),a2,()),p3.ad,0,()))
 (req (((decide (0 ≤ y2.1 + 1)) && (decide (y2.1 + 1 ≤ lenL a1))) && (decide (lenL a1 ≤ lenL a1))) <|
 req (room (lenL ([] : List Ls)) (lenL (subL a1 0 y2.1))) <|
 req (room (lenL (([] : List Ls) ++ (subL a1 0 y2.1))) (lenL (subL a1 (y2.1 + 1) (lenL a1)))) <|
 req (zq697 y2.1 (lenL a1)) <|
 req (zq697 y2.1 (lenL a1)) <|
 (geti a1 y2.1).bind fun p3 =>
 some ((a0,(([] : List Ls) ++ (subL a1 0 y2.1)) ++ (subL a1 (y2.1 + 1) (lenL a1)),a2,()),p3.ad,0,())))
 (req (((decide (0 ≤ y2.1 + 1)) && (decide (y2.1 + 1 ≤ lenL a1))) && (decide (lenL a1 ≤ lenL a1))) <|
 req ((decide (0 ≤ y2.1)) && (decide (y2.1 ≤ lenL a1))) <|
 req (room (lenL ([] : List Ls)) (lenL (subL a1 0 y2.1))) <|
 req (room (lenL (([] : List Ls) ++ (subL a1 0 y2.1))) (lenL (subL a1 (y2.1 + 1) (lenL a1)))) <|
 req (zq697 y2.1 (lenL a1)) <|
 req (zq697 y2.1 (lenL a1)) <|
 (geti a1 y2.1).bind fun p3 =>
 some ((a0,(([] : List Ls) ++ (subL a1 0 y2.1)) ++ (subL a1 (y2.1 + 1) (lenL a1)),a2,()),p3.ad,0,())))
 (both
 (req ((decide (0 ≤ y2.1)) && (decide (y2.1 ≤ lenL a1))) <|
 both
 (both
 (req (room (lenL ([] : List Ls)) (lenL (subL a1 0 y2.1))) <|
 req (((decide (0 ≤ y2.1 + 1)) && (decide (y2.1 + 1 ≤ lenL a1))) && (decide (lenL a1 ≤ lenL a1))) <|
 req (room (lenL (([] : List Ls) ++ (subL a1 0 y2.1))) (lenL (subL a1 (y2.1 + 1) (lenL a1)))) <|
 req (zq697 y2.1 (lenL a1)) <|
 req (zq697 y2.1 (lenL a1)) <|
 (geti a1 y2.1).bind fun p3 =>
 some ((a0,(([] : List Ls) ++ (subL a1 0 y2.1)) ++ (subL a1 (y2.1 + 1) (lenL a1)),a2,()),p3.ad,0,()))
 (req (((decide (0 ≤ y2.1 + 1)) && (decide (y2.1 + 1 ≤ lenL a1))) && (decide (lenL a1 ≤ lenL a1))) <|
 req (room (lenL ([] : List Ls)) (lenL (subL a1 0 y2.1))) <|
 req (room (lenL (([] : List Ls) ++ (subL a1 0 y2.1))) (lenL (subL a1 (y2.1 + 1) (lenL a1)))) <|
 req (zq697 y2.1 (lenL a1)) <|
 req (zq697 y2.1 (lenL a1)) <|
 (geti a1 y2.1).bind fun p3 =>
 some ((a0,(([] : List Ls) ++ (subL a1 0 y2.1)) ++ (subL a1 (y2.1 + 1) (lenL a1)),a2,()),p3.ad,0,())))
 (req (((decide (0 ≤ y2.1 + 1)) && (decide (y2.1 + 1 ≤ lenL a1))) && (decide (lenL a1 ≤ lenL a1))) <|
 req (room (lenL ([] : List Ls)) (lenL (subL a1 0 y2.1))) <|
 req (room (lenL (([] : List Ls) ++ (subL a1 0 y2.1))) (lenL (subL a1 (y2.1 + 1) (lenL a1)))) <|
 req (zq697 y2.1 (lenL a1)) <|
 req (zq697 y2.1 (lenL a1)) <|
 (geti a1 y2.1).bind fun p3 =>
 some ((a0,(([] : List Ls) ++ (subL a1 0 y2.1)) ++ (subL a1 (y2.1 + 1) (lenL a1)),a2,()),p3.ad,0,())))
 (req (((decide (0 ≤ y2.1 + 1)) && (decide (y2.1 + 1 ≤ lenL a1))) && (decide (lenL a1 ≤ lenL a1))) <|
 dup 1 <|
 req ((decide (0 ≤ y2.1)) && (decide (y2.1 ≤ lenL a1))) <|
 req (room (lenL ([] : List Ls)) (lenL (subL a1 0 y2.1))) <|
 req (room (lenL (([] : List Ls) ++ (subL a1 0 y2.1))) (lenL (subL a1 (y2.1 + 1) (lenL a1)))) <|
 req (zq697 y2.1 (lenL a1)) <|
 req (zq697 y2.1 (lenL a1)) <|
 (geti a1 y2.1).bind fun p3 =>
 some ((a0,(([] : List Ls) ++ (subL a1 0 y2.1)) ++ (subL a1 (y2.1 + 1) (lenL a1)),a2,()),p3.ad,0,())))))
 (br (decide (a3.n < a2))
 (some (((([] : List Pf),([] : List (List Ad))),([] : List Ls),0,()),(⟨false,0,0⟩ : Ad),4,()))
 ((zq179 a1 a3.n).bind fun y2 =>
 some ((a0,y2.1,a3.n,()),(⟨false,0,0⟩ : Ad),0,())))))))
abbrev law_RestStates_law_spoilState_L5_A:=((Unit × (Int × Unit) × (Int × Unit) × Unit) × (List (List Ad) × List Pf × List Ls × List Ad × List Ls × (Int × Unit) × (Oq × Unit) × (Bool × Int × Int × Int × Unit) × (Int × Unit) × (Bool × Int × Int × Int × Unit) × List Ls × (Int × Unit) × List Pf × List Ls × List Ad × List Pf × List Ls × List (List Ad) × List (List Ad) × List (List Ad) × List Pf × List Ls × (Int × Unit) × List (List Ad) × List Pf × List Ls × (Ad × Unit) × List Ls × (Ad × Unit) × List Ls × (Int × Unit) × Unit))
abbrev law_RestStates_law_spoilState_L5_B:=Option ((Unit × (Int × Unit) × Unit) × (List (List Ad) × List Pf × List Ls × List Ad × List Ls × (Int × Unit) × (Oq × Unit) × (Bool × Int × Int × Int × Unit) × (Int × Unit) × (Bool × Int × Int × Int × Unit) × List Ls × (Int × Unit) × List Pf × List Ls × List Ad × List Pf × List Ls × List (List Ad) × List (List Ad) × List (List Ad) × List Pf × List Ls × (Int × Unit) × List (List Ad) × List Pf × List Ls × (Ad × Unit) × List Ls × (Ad × Unit) × List Ls × (Int × Unit) × Unit))
def zq798 (rec : law_RestStates_law_spoilState_L5_A → law_RestStates_law_spoilState_L5_B) (x : law_RestStates_law_spoilState_L5_A) : law_RestStates_law_spoilState_L5_B :=
 let v0:=x.1.2.1.1
 let v1:=x.1.2.2.1.1
 let v2:=x.2.1
 let v3:=x.2.2.1
 let v4:=x.2.2.2.1
 let v5:=x.2.2.2.2.1
 let v6:=x.2.2.2.2.2.1
 let v7:=x.2.2.2.2.2.2.1.1
 let v8:=x.2.2.2.2.2.2.2.1.1
 let v9:=x.2.2.2.2.2.2.2.2.1.1
 let v10:=x.2.2.2.2.2.2.2.2.1.2.1
 let v11:=x.2.2.2.2.2.2.2.2.1.2.2.1
 let v12:=x.2.2.2.2.2.2.2.2.1.2.2.2.1
 let v13:=x.2.2.2.2.2.2.2.2.2.1.1
 let zz:=x.2.2.2.2.2.2.2.2.2.2
 let v14:=zz.1.1
 let v15:=zz.1.2.1
 let v16:=zz.1.2.2.1
 let v17:=zz.1.2.2.2.1
 let v18:=zz.2.1
 let v19:=zz.2.2.1.1
 let v20:=zz.2.2.2.1
 let v21:=zz.2.2.2.2.1
 let v22:=zz.2.2.2.2.2.1
 let v23:=zz.2.2.2.2.2.2.1
 let v24:=zz.2.2.2.2.2.2.2.1
 let v25:=zz.2.2.2.2.2.2.2.2.1
 let v26:=zz.2.2.2.2.2.2.2.2.2.1
 let v27:=zz.2.2.2.2.2.2.2.2.2.2.1
 let v28:=zz.2.2.2.2.2.2.2.2.2.2.2.1
 let v29:=zz.2.2.2.2.2.2.2.2.2.2.2.2.1
 let v30:=zz.2.2.2.2.2.2.2.2.2.2.2.2.2.1.1
 let v31:=zz.2.2.2.2.2.2.2.2.2.2.2.2.2.2.1
 let v32:=zz.2.2.2.2.2.2.2.2.2.2.2.2.2.2.2.1
 let v33:=zz.2.2.2.2.2.2.2.2.2.2.2.2.2.2.2.2.1
 let v34:=zz.2.2.2.2.2.2.2.2.2.2.2.2.2.2.2.2.2.1.1
 let v35:=zz.2.2.2.2.2.2.2.2.2.2.2.2.2.2.2.2.2.2.1
 let v36:=zz.2.2.2.2.2.2.2.2.2.2.2.2.2.2.2.2.2.2.2.1.1
 let v37:=zz.2.2.2.2.2.2.2.2.2.2.2.2.2.2.2.2.2.2.2.2.1
 let v38:=zz.2.2.2.2.2.2.2.2.2.2.2.2.2.2.2.2.2.2.2.2.2.1.1
 req (zq697 v0 (lenL v28)) <|
 req (zq697 v0 (lenL v28)) <|
 (geti v28 v0).bind fun p1 =>
 br (decide (v1 < lenL (getL v27 v0)))
 (req (zq697 v0 (lenL v28)) <|
 req (zq697 v0 (lenL v28)) <|
 (geti v28 v0).bind fun p2 =>
 req (zq697 v1 (lenL (getL v27 v0))) <|
 req (zq697 v1 (lenL (getL v27 v0))) <|
 (geti (getL v27 v0) v1).bind fun p3 =>
 req (i64ok (v1 + 1)) <|
 rec (((),(v0,()),(v1 + 1,()),()),(v2,v3,v4,v5,v6,(v7,()),(v8,()),(v9,v10,v11,v12,()),(v13,()),(v14,v15,v16,v17,()),v18,(v19,()),v20,v21,v22,v23,v24,v25,v26,seti v27 v0 (seti (getL v27 v0) v1 (⟨p3.v6,p3.hi,7⟩ : Ad)),v28,v29,(v30,()),v31,v32,v33,(v34,()),v35,(v36,()),v37,(v38,()),())))
 (some (((),(v0,()),()),(v2,v3,v4,v5,v6,(v7,()),(v8,()),(v9,v10,v11,v12,()),(v13,()),(v14,v15,v16,v17,()),v18,(v19,()),v20,v21,v22,v23,v24,v25,v26,v27,v28,v29,(v30,()),v31,v32,v33,(v34,()),v35,(v36,()),v37,(v38,()),())))
abbrev law_RestStates_law_spoilState_L2_A:=((Unit × (Int × Unit) × Unit) × (List (List Ad) × List Pf × List Ls × List Ad × List Ls × (Int × Unit) × (Oq × Unit) × (Bool × Int × Int × Int × Unit) × (Int × Unit) × (Bool × Int × Int × Int × Unit) × List Ls × (Int × Unit) × List Pf × List Ls × List Ad × List Pf × List Ls × List (List Ad) × List (List Ad) × List (List Ad) × List Pf × List Ls × (Int × Unit) × List (List Ad) × List Pf × List Ls × (Ad × Unit) × List Ls × (Ad × Unit) × List Ls × (Int × Unit) × Unit))
abbrev law_RestStates_law_spoilState_L2_B:=Option ((Unit × Unit) × (List (List Ad) × List Pf × List Ls × List Ad × List Ls × (Int × Unit) × (Oq × Unit) × (Bool × Int × Int × Int × Unit) × (Int × Unit) × (Bool × Int × Int × Int × Unit) × List Ls × (Int × Unit) × List Pf × List Ls × List Ad × List Pf × List Ls × List (List Ad) × List (List Ad) × List (List Ad) × List Pf × List Ls × (Int × Unit) × List (List Ad) × List Pf × List Ls × (Ad × Unit) × List Ls × (Ad × Unit) × List Ls × (Int × Unit) × Unit))
def zq795 (rec : law_RestStates_law_spoilState_L2_A → law_RestStates_law_spoilState_L2_B) (x : law_RestStates_law_spoilState_L2_A) : law_RestStates_law_spoilState_L2_B :=
 let v0:=x.1.2.1.1
 let v1:=x.2.1
 let v2:=x.2.2.1
 let v3:=x.2.2.2.1
 let v4:=x.2.2.2.2.1
 let v5:=x.2.2.2.2.2.1
 let v6:=x.2.2.2.2.2.2.1.1
 let v7:=x.2.2.2.2.2.2.2.1.1
 let v8:=x.2.2.2.2.2.2.2.2.1.1
 let v9:=x.2.2.2.2.2.2.2.2.1.2.1
 let v10:=x.2.2.2.2.2.2.2.2.1.2.2.1
 let v11:=x.2.2.2.2.2.2.2.2.1.2.2.2.1
 let v12:=x.2.2.2.2.2.2.2.2.2.1.1
 let zz:=x.2.2.2.2.2.2.2.2.2.2
 let v13:=zz.1.1
 let v14:=zz.1.2.1
 let v15:=zz.1.2.2.1
 let v16:=zz.1.2.2.2.1
 let v17:=zz.2.1
 let v18:=zz.2.2.1.1
 let v19:=zz.2.2.2.1
 let v20:=zz.2.2.2.2.1
 let v21:=zz.2.2.2.2.2.1
 let v22:=zz.2.2.2.2.2.2.1
 let v23:=zz.2.2.2.2.2.2.2.1
 let v24:=zz.2.2.2.2.2.2.2.2.1
 let v25:=zz.2.2.2.2.2.2.2.2.2.1
 let v26:=zz.2.2.2.2.2.2.2.2.2.2.1
 let v27:=zz.2.2.2.2.2.2.2.2.2.2.2.1
 let v28:=zz.2.2.2.2.2.2.2.2.2.2.2.2.1
 let v29:=zz.2.2.2.2.2.2.2.2.2.2.2.2.2.1.1
 let v30:=zz.2.2.2.2.2.2.2.2.2.2.2.2.2.2.1
 let v31:=zz.2.2.2.2.2.2.2.2.2.2.2.2.2.2.2.1
 let v32:=zz.2.2.2.2.2.2.2.2.2.2.2.2.2.2.2.2.1
 let v33:=zz.2.2.2.2.2.2.2.2.2.2.2.2.2.2.2.2.2.1.1
 let v34:=zz.2.2.2.2.2.2.2.2.2.2.2.2.2.2.2.2.2.2.1
 let v35:=zz.2.2.2.2.2.2.2.2.2.2.2.2.2.2.2.2.2.2.2.1.1
 let v36:=zz.2.2.2.2.2.2.2.2.2.2.2.2.2.2.2.2.2.2.2.2.1
 let v37:=zz.2.2.2.2.2.2.2.2.2.2.2.2.2.2.2.2.2.2.2.2.2.1.1
 br (decide (v0 < lenL v27))
 ((loopN zq798 FUEL (((),(v0,()),(0,()),()),(v1,v2,v3,v4,v5,(v6,()),(v7,()),(v8,v9,v10,v11,()),(v12,()),(v13,v14,v15,v16,()),v17,(v18,()),v19,v20,v21,v22,v23,v24,v25,v26,v27,v28,(v29,()),v30,v31,v32,(v33,()),v34,(v35,()),v36,(v37,()),()))).bind fun y1 =>
 req (zq697 y1.1.2.1.1 (lenL y1.2.2.2.2.2.2.2.2.2.2.2.2.2.2.2.2.2.2.2.2.2.1)) <|
 req (zq697 y1.1.2.1.1 (lenL y1.2.2.2.2.2.2.2.2.2.2.2.2.2.2.2.2.2.2.2.2.2.1)) <|
 req (zq697 y1.1.2.1.1 (lenL y1.2.2.2.2.2.2.2.2.2.2.2.2.2.2.2.2.2.2.2.2.2.1)) <|
 (geti y1.2.2.2.2.2.2.2.2.2.2.2.2.2.2.2.2.2.2.2.2.2.1 y1.1.2.1.1).bind fun p2 =>
 req (i64ok (y1.1.2.1.1 + 1)) <|
 rec (((),(y1.1.2.1.1 + 1,()),()),(y1.2.1,y1.2.2.1,y1.2.2.2.1,y1.2.2.2.2.1,y1.2.2.2.2.2.1,(y1.2.2.2.2.2.2.1.1,()),(y1.2.2.2.2.2.2.2.1.1,()),(y1.2.2.2.2.2.2.2.2.1.1,y1.2.2.2.2.2.2.2.2.1.2.1,y1.2.2.2.2.2.2.2.2.1.2.2.1,y1.2.2.2.2.2.2.2.2.1.2.2.2.1,()),(y1.2.2.2.2.2.2.2.2.2.1.1,()),(y1.2.2.2.2.2.2.2.2.2.2.1.1,y1.2.2.2.2.2.2.2.2.2.2.1.2.1,y1.2.2.2.2.2.2.2.2.2.2.1.2.2.1,y1.2.2.2.2.2.2.2.2.2.2.1.2.2.2.1,()),y1.2.2.2.2.2.2.2.2.2.2.2.1,(y1.2.2.2.2.2.2.2.2.2.2.2.2.1.1,()),y1.2.2.2.2.2.2.2.2.2.2.2.2.2.1,y1.2.2.2.2.2.2.2.2.2.2.2.2.2.2.1,y1.2.2.2.2.2.2.2.2.2.2.2.2.2.2.2.1,y1.2.2.2.2.2.2.2.2.2.2.2.2.2.2.2.2.1,y1.2.2.2.2.2.2.2.2.2.2.2.2.2.2.2.2.2.1,y1.2.2.2.2.2.2.2.2.2.2.2.2.2.2.2.2.2.2.1,y1.2.2.2.2.2.2.2.2.2.2.2.2.2.2.2.2.2.2.2.1,y1.2.2.2.2.2.2.2.2.2.2.2.2.2.2.2.2.2.2.2.2.1,seti y1.2.2.2.2.2.2.2.2.2.2.2.2.2.2.2.2.2.2.2.2.2.1 y1.1.2.1.1 (⟨p2.ad,(-7)⟩ : Pf),y1.2.2.2.2.2.2.2.2.2.2.2.2.2.2.2.2.2.2.2.2.2.2.1,(y1.2.2.2.2.2.2.2.2.2.2.2.2.2.2.2.2.2.2.2.2.2.2.2.1.1,()),y1.2.2.2.2.2.2.2.2.2.2.2.2.2.2.2.2.2.2.2.2.2.2.2.2.1,y1.2.2.2.2.2.2.2.2.2.2.2.2.2.2.2.2.2.2.2.2.2.2.2.2.2.1,y1.2.2.2.2.2.2.2.2.2.2.2.2.2.2.2.2.2.2.2.2.2.2.2.2.2.2.1,(y1.2.2.2.2.2.2.2.2.2.2.2.2.2.2.2.2.2.2.2.2.2.2.2.2.2.2.2.1.1,()),y1.2.2.2.2.2.2.2.2.2.2.2.2.2.2.2.2.2.2.2.2.2.2.2.2.2.2.2.2.1,(y1.2.2.2.2.2.2.2.2.2.2.2.2.2.2.2.2.2.2.2.2.2.2.2.2.2.2.2.2.2.1.1,()),y1.2.2.2.2.2.2.2.2.2.2.2.2.2.2.2.2.2.2.2.2.2.2.2.2.2.2.2.2.2.2.1,(y1.2.2.2.2.2.2.2.2.2.2.2.2.2.2.2.2.2.2.2.2.2.2.2.2.2.2.2.2.2.2.2.1.1,()),())))
 (some (((),()),(v1,v2,v3,v4,v5,(v6,()),(v7,()),(v8,v9,v10,v11,()),(v12,()),(v13,v14,v15,v16,()),v17,(v18,()),v19,v20,v21,v22,v23,v24,v25,v26,v27,v28,(v29,()),v30,v31,v32,(v33,()),v34,(v35,()),v36,(v37,()),())))
abbrev law_RestStates_law_spoilState_L10_A:=((Unit × (Int × Unit) × Unit) × (List (List Ad) × List Pf × List Ls × List Ad × List Ls × (Int × Unit) × (Oq × Unit) × (Bool × Int × Int × Int × Unit) × (Int × Unit) × (Bool × Int × Int × Int × Unit) × List Ls × (Int × Unit) × List Pf × List Ls × List Ad × List Pf × List Ls × List (List Ad) × List (List Ad) × List (List Ad) × List Pf × List Ls × (Int × Unit) × List (List Ad) × List Pf × List Ls × (Ad × Unit) × List Ls × (Ad × Unit) × List Ls × (Int × Unit) × Unit))
abbrev law_RestStates_law_spoilState_L10_B:=Option (Unit × (List (List Ad) × List Pf × List Ls × List Ad × List Ls × (Int × Unit) × (Oq × Unit) × (Bool × Int × Int × Int × Unit) × (Int × Unit) × (Bool × Int × Int × Int × Unit) × List Ls × (Int × Unit) × List Pf × List Ls × List Ad × List Pf × List Ls × List (List Ad) × List (List Ad) × List (List Ad) × List Pf × List Ls × (Int × Unit) × List (List Ad) × List Pf × List Ls × (Ad × Unit) × List Ls × (Ad × Unit) × List Ls × Unit))
def zq792 (rec : law_RestStates_law_spoilState_L10_A → law_RestStates_law_spoilState_L10_B) (x : law_RestStates_law_spoilState_L10_A) : law_RestStates_law_spoilState_L10_B :=
 let v0:=x.1.2.1.1
 let v1:=x.2.1
 let v2:=x.2.2.1
 let v3:=x.2.2.2.1
 let v4:=x.2.2.2.2.1
 let v5:=x.2.2.2.2.2.1
 let v6:=x.2.2.2.2.2.2.1.1
 let v7:=x.2.2.2.2.2.2.2.1.1
 let v8:=x.2.2.2.2.2.2.2.2.1.1
 let v9:=x.2.2.2.2.2.2.2.2.1.2.1
 let v10:=x.2.2.2.2.2.2.2.2.1.2.2.1
 let v11:=x.2.2.2.2.2.2.2.2.1.2.2.2.1
 let v12:=x.2.2.2.2.2.2.2.2.2.1.1
 let zz:=x.2.2.2.2.2.2.2.2.2.2
 let v13:=zz.1.1
 let v14:=zz.1.2.1
 let v15:=zz.1.2.2.1
 let v16:=zz.1.2.2.2.1
 let v17:=zz.2.1
 let v18:=zz.2.2.1.1
 let v19:=zz.2.2.2.1
 let v20:=zz.2.2.2.2.1
 let v21:=zz.2.2.2.2.2.1
 let v22:=zz.2.2.2.2.2.2.1
 let v23:=zz.2.2.2.2.2.2.2.1
 let v24:=zz.2.2.2.2.2.2.2.2.1
 let v25:=zz.2.2.2.2.2.2.2.2.2.1
 let v26:=zz.2.2.2.2.2.2.2.2.2.2.1
 let v27:=zz.2.2.2.2.2.2.2.2.2.2.2.1
 let v28:=zz.2.2.2.2.2.2.2.2.2.2.2.2.1
 let v29:=zz.2.2.2.2.2.2.2.2.2.2.2.2.2.1.1
 let v30:=zz.2.2.2.2.2.2.2.2.2.2.2.2.2.2.1
 let v31:=zz.2.2.2.2.2.2.2.2.2.2.2.2.2.2.2.1
 let v32:=zz.2.2.2.2.2.2.2.2.2.2.2.2.2.2.2.2.1
 let v33:=zz.2.2.2.2.2.2.2.2.2.2.2.2.2.2.2.2.2.1.1
 let v34:=zz.2.2.2.2.2.2.2.2.2.2.2.2.2.2.2.2.2.2.1
 let v35:=zz.2.2.2.2.2.2.2.2.2.2.2.2.2.2.2.2.2.2.2.1.1
 let v36:=zz.2.2.2.2.2.2.2.2.2.2.2.2.2.2.2.2.2.2.2.2.1
 let v37:=zz.2.2.2.2.2.2.2.2.2.2.2.2.2.2.2.2.2.2.2.2.2.1.1
 br (decide (v0 < lenL v28))
 (req (zq697 v0 (lenL v28)) <|
 req (zq697 v0 (lenL v28)) <|
 (geti v28 v0).bind fun p1 =>
 req (i64ok (v0 + 1)) <|
 rec (((),(v0 + 1,()),()),(v1,v2,v3,v4,v5,(v6,()),(v7,()),(v8,v9,v10,v11,()),(v12,()),(v13,v14,v15,v16,()),v17,(v18,()),v19,v20,v21,v22,v23,v24,v25,v26,v27,seti v28 v0 (⟨p1.ad,(⟨#[63]⟩ : ByteArray),p1.upto⟩ : Ls),(v29,()),v30,v31,v32,(v33,()),v34,(v35,()),v36,(v37,()),())))
 (some ((),(v1,v2,v3,v4,v5,(v6,()),(v7,()),(v8,v9,v10,v11,()),(v12,()),(v13,v14,v15,v16,()),v17,(v18,()),v19,v20,v21,v22,v23,v24,v25,v26,v27,v28,(v29,()),v30,v31,v32,(v33,()),v34,(v35,()),v36,())))
abbrev law_RestStates_L20_A:=((Unit × (ByteArray × Unit) × Unit × Unit × Unit × Unit × Unit × Unit × (Int × Unit) × Unit × (Int × Unit) × Unit × Unit × (Int × Unit) × Unit) × (List (List Ad) × List Pf × List Ls × List Ad × List Ls × (Int × Unit) × (Oq × Unit) × (Bool × Int × Int × Int × Unit) × (Int × Unit) × (Bool × Int × Int × Int × Unit) × List Ls × (Int × Unit) × List Ls × List Ls × List Pf × List Ls × List Ad × List Pf × List Ls × List (List Ad) × List (List Ad) × Unit))
abbrev law_RestStates_L20_B:=Option ((Unit × (ByteArray × Unit) × Unit × Unit × Unit × Unit × Unit × Unit × (Int × Unit) × Unit × (Int × Unit) × Unit × Unit) × (List (List Ad) × List Pf × List Ls × List Ad × List Ls × (Int × Unit) × (Oq × Unit) × (Bool × Int × Int × Int × Unit) × (Int × Unit) × (Bool × Int × Int × Int × Unit) × List Ls × (Int × Unit) × List Ls × List Pf × List Ls × List Ad × List Pf × List Ls × List (List Ad) × List (List Ad) × Unit))
def zq779 (rec : law_RestStates_L20_A → law_RestStates_L20_B) (x : law_RestStates_L20_A) : law_RestStates_L20_B :=
 let v0:=x.1.2.1.1
 let v1:=x.1.2.2.2.2.2.2.2.2.1.1
 let v2:=x.1.2.2.2.2.2.2.2.2.2.2.1.1
 let v3:=x.1.2.2.2.2.2.2.2.2.2.2.2.2.2.1.1
 let v4:=x.2.1
 let v5:=x.2.2.1
 let v6:=x.2.2.2.1
 let v7:=x.2.2.2.2.1
 let v8:=x.2.2.2.2.2.1
 let v9:=x.2.2.2.2.2.2.1.1
 let v10:=x.2.2.2.2.2.2.2.1.1
 let zz:=x.2.2.2.2.2.2.2.2
 let v11:=zz.1.1
 let v12:=zz.1.2.1
 let v13:=zz.1.2.2.1
 let v14:=zz.1.2.2.2.1
 let v15:=zz.2.1.1
 let v16:=zz.2.2.1.1
 let v17:=zz.2.2.1.2.1
 let v18:=zz.2.2.1.2.2.1
 let v19:=zz.2.2.1.2.2.2.1
 let v20:=zz.2.2.2.1
 let v21:=zz.2.2.2.2.1.1
 let v22:=zz.2.2.2.2.2.1
 let v23:=zz.2.2.2.2.2.2.1
 let v24:=zz.2.2.2.2.2.2.2.1
 let v25:=zz.2.2.2.2.2.2.2.2.1
 let v26:=zz.2.2.2.2.2.2.2.2.2.1
 let v27:=zz.2.2.2.2.2.2.2.2.2.2.1
 let v28:=zz.2.2.2.2.2.2.2.2.2.2.2.1
 let v29:=zz.2.2.2.2.2.2.2.2.2.2.2.2.1
 let v30:=zz.2.2.2.2.2.2.2.2.2.2.2.2.2.1
 br (decide (v3 < lenL v22))
 (req (zq697 v3 (lenL v22)) <|
 req (zq697 v3 (lenL v22)) <|
 (geti v22 v3).bind fun p1 =>
 req (i64ok (v3 + 1)) <|
 rec (((),(v0,()),(),(),(),(),(),(),(v1,()),(),(v2,()),(),(),(v3 + 1,()),()),(v4,v5,v6,v7,v8,(v9,()),(v10,()),(v11,v12,v13,v14,()),(v15,()),(v16,v17,v18,v19,()),v20,(v21,()),seti v22 v3 (⟨p1.ad,(⟨#[63]⟩ : ByteArray),p1.upto⟩ : Ls),v23,v24,v25,v26,v27,v28,v29,v30,())))
 (some (((),(v0,()),(),(),(),(),(),(),(v1,()),(),(v2,()),(),()),(v4,v5,v6,v7,v8,(v9,()),(v10,()),(v11,v12,v13,v14,()),(v15,()),(v16,v17,v18,v19,()),v20,(v21,()),v23,v24,v25,v26,v27,v28,v29,v30,())))
abbrev law_RestStates_L24_A:=((Unit × (ByteArray × Unit) × Unit × Unit × Unit × Unit × Unit × Unit × (Int × Unit) × Unit × (Int × Unit) × Unit × (Int × Unit) × Unit) × (List (List Ad) × List Pf × List Ls × List Ad × List Ls × (Int × Unit) × (Oq × Unit) × (Bool × Int × Int × Int × Unit) × (Int × Unit) × (Bool × Int × Int × Int × Unit) × List Ls × (Int × Unit) × List Ls × List Pf × List Ls × List Ad × List Pf × List Ls × List (List Ad) × List (List Ad) × Unit))
abbrev law_RestStates_L24_B:=Option ((Unit × (ByteArray × Unit) × Unit × Unit × Unit × Unit × Unit × Unit × (Int × Unit) × Unit × (Int × Unit) × Unit) × (List (List Ad) × List Pf × List Ls × List Ad × List Ls × (Int × Unit) × (Oq × Unit) × (Bool × Int × Int × Int × Unit) × (Int × Unit) × (Bool × Int × Int × Int × Unit) × List Ls × (Int × Unit) × List Pf × List Ls × List Ad × List Pf × List Ls × List (List Ad) × List (List Ad) × Unit))
def zq782 (rec : law_RestStates_L24_A → law_RestStates_L24_B) (x : law_RestStates_L24_A) : law_RestStates_L24_B :=
 let v0:=x.1.2.1.1
 let v1:=x.1.2.2.2.2.2.2.2.2.1.1
 let v2:=x.1.2.2.2.2.2.2.2.2.2.2.1.1
 let v3:=x.1.2.2.2.2.2.2.2.2.2.2.2.2.1.1
 let v4:=x.2.1
 let v5:=x.2.2.1
 let v6:=x.2.2.2.1
 let v7:=x.2.2.2.2.1
 let v8:=x.2.2.2.2.2.1
 let v9:=x.2.2.2.2.2.2.1.1
 let v10:=x.2.2.2.2.2.2.2.1.1
 let zz:=x.2.2.2.2.2.2.2.2
 let v11:=zz.1.1
 let v12:=zz.1.2.1
 let v13:=zz.1.2.2.1
 let v14:=zz.1.2.2.2.1
 let v15:=zz.2.1.1
 let v16:=zz.2.2.1.1
 let v17:=zz.2.2.1.2.1
 let v18:=zz.2.2.1.2.2.1
 let v19:=zz.2.2.1.2.2.2.1
 let v20:=zz.2.2.2.1
 let v21:=zz.2.2.2.2.1.1
 let v22:=zz.2.2.2.2.2.1
 let v23:=zz.2.2.2.2.2.2.1
 let v24:=zz.2.2.2.2.2.2.2.1
 let v25:=zz.2.2.2.2.2.2.2.2.1
 let v26:=zz.2.2.2.2.2.2.2.2.2.1
 let v27:=zz.2.2.2.2.2.2.2.2.2.2.1
 let v28:=zz.2.2.2.2.2.2.2.2.2.2.2.1
 let v29:=zz.2.2.2.2.2.2.2.2.2.2.2.2.1
 br (decide (v3 < lenL v22))
 (req (zq697 v3 (lenL v22)) <|
 req (zq697 v3 (lenL v22)) <|
 (geti v22 v3).bind fun p1 =>
 req (i64ok (v3 + 1)) <|
 rec (((),(v0,()),(),(),(),(),(),(),(v1,()),(),(v2,()),(),(v3 + 1,()),()),(v4,v5,v6,v7,v8,(v9,()),(v10,()),(v11,v12,v13,v14,()),(v15,()),(v16,v17,v18,v19,()),v20,(v21,()),seti v22 v3 (⟨p1.ad,(⟨#[63]⟩ : ByteArray),p1.upto⟩ : Ls),v23,v24,v25,v26,v27,v28,v29,())))
 (some (((),(v0,()),(),(),(),(),(),(),(v1,()),(),(v2,()),()),(v4,v5,v6,v7,v8,(v9,()),(v10,()),(v11,v12,v13,v14,()),(v15,()),(v16,v17,v18,v19,()),v20,(v21,()),v23,v24,v25,v26,v27,v28,v29,())))
abbrev law_RestStates_L9_A:=((Unit × (ByteArray × Unit) × Unit × Unit × Unit × Unit × Unit × Unit × (Int × Unit) × Unit × (Int × Unit) × Unit) × (List (List Ad) × List Pf × List Ls × List Ad × List Ls × (Int × Unit) × (Oq × Unit) × (Bool × Int × Int × Int × Unit) × (Int × Unit) × (Bool × Int × Int × Int × Unit) × List Ls × (Int × Unit) × List Pf × List Ls × List Ad × List Pf × List Ls × List (List Ad) × List (List Ad) × Unit))
abbrev law_RestStates_L9_B:=Option ((((Bool × Unit) × Unit) × (List (List Ad) × List Pf × List Ls × List Ad × List Ls × Unit)) ⊕ (Unit × (List (List Ad) × List Pf × List Ls × List Ad × List Ls × Unit)))
def zq785 (rec : law_RestStates_L9_A → law_RestStates_L9_B) (x : law_RestStates_L9_A) : law_RestStates_L9_B :=
 let v0:=x.1.2.1.1
 let v1:=x.1.2.2.2.2.2.2.2.2.1.1
 let v2:=x.1.2.2.2.2.2.2.2.2.2.2.1.1
 let v3:=x.2.1
 let v4:=x.2.2.1
 let v5:=x.2.2.2.1
 let v6:=x.2.2.2.2.1
 let v7:=x.2.2.2.2.2.1
 let v8:=x.2.2.2.2.2.2.1.1
 let v9:=x.2.2.2.2.2.2.2.1.1
 let zz:=x.2.2.2.2.2.2.2.2
 let v10:=zz.1.1
 let v11:=zz.1.2.1
 let v12:=zz.1.2.2.1
 let v13:=zz.1.2.2.2.1
 let v14:=zz.2.1.1
 let v15:=zz.2.2.1.1
 let v16:=zz.2.2.1.2.1
 let v17:=zz.2.2.1.2.2.1
 let v18:=zz.2.2.1.2.2.2.1
 let v19:=zz.2.2.2.1
 let v20:=zz.2.2.2.2.1.1
 let v21:=zz.2.2.2.2.2.1
 let v22:=zz.2.2.2.2.2.2.1
 let v23:=zz.2.2.2.2.2.2.2.1
 let v24:=zz.2.2.2.2.2.2.2.2.1
 let v25:=zz.2.2.2.2.2.2.2.2.2.1
 let v26:=zz.2.2.2.2.2.2.2.2.2.2.1
 let v27:=zz.2.2.2.2.2.2.2.2.2.2.2.1
 br (decide (v2 < 2))
 ((zq1571 (v21,v26) v22 v14 v9).bind fun y1 =>
 (zq856 y1.1.1 y1.1.2.1 y1.1.2.2.1 y1.2.2.1 v1 (v24,v27) v25 v20).bind fun y2 =>
 br (!y2.1)
 (some (Sum.inl (((false,()),()),(v3,v4,v5,v6,v7,()))))
 ((zq900 (⟨(⟨v15,v16,v17⟩ : Ad),v18⟩ : Pf) v23 v19 v0 v8 5).bind fun y3 =>
 (zq894 v19 v8).bind fun y4 =>
 (zq225 (v21,v26) v22 v14 (v4,v3) v5 v8).bind fun y5 =>
 (br (!y5.1)
 (some true)
 ((zq216 v19 v7).bind fun y6 =>
 some (!y6.1))).bind fun c6 =>
 (br c6
 (some true)
 ((zq207 v23 v6).bind fun y7 =>
 some (!y7.1))).bind fun c7 =>
 br c7
 (some (Sum.inl (((false,()),()),(v3,v4,v5,v6,v7,()))))
 ((loopN zq795 FUEL (((),(0,()),()),(v3,v4,v5,v6,v7,(v8,()),(v9,()),(v10,v11,v12,v13,()),(v14,()),(v15,v16,v17,v18,()),v19,(v20,()),v21,v22,v23,v24,v25,v26,v27,y1.1.1.2,y1.1.1.1,y1.1.2.1,(y1.1.2.2.1,()),[],[],[],(y1.2.1,()),y3.1,(y3.2.1,()),y4.1,(y1.1.2.2.1,()),()))).bind fun y8 =>
 (loopN zq792 FUEL (((),(0,()),()),(y8.2.1,y8.2.2.1,y8.2.2.2.1,y8.2.2.2.2.1,y8.2.2.2.2.2.1,(y8.2.2.2.2.2.2.1.1,()),(y8.2.2.2.2.2.2.2.1.1,()),(y8.2.2.2.2.2.2.2.2.1.1,y8.2.2.2.2.2.2.2.2.1.2.1,y8.2.2.2.2.2.2.2.2.1.2.2.1,y8.2.2.2.2.2.2.2.2.1.2.2.2.1,()),(y8.2.2.2.2.2.2.2.2.2.1.1,()),(y8.2.2.2.2.2.2.2.2.2.2.1.1,y8.2.2.2.2.2.2.2.2.2.2.1.2.1,y8.2.2.2.2.2.2.2.2.2.2.1.2.2.1,y8.2.2.2.2.2.2.2.2.2.2.1.2.2.2.1,()),y8.2.2.2.2.2.2.2.2.2.2.2.1,(y8.2.2.2.2.2.2.2.2.2.2.2.2.1.1,()),y8.2.2.2.2.2.2.2.2.2.2.2.2.2.1,y8.2.2.2.2.2.2.2.2.2.2.2.2.2.2.1,y8.2.2.2.2.2.2.2.2.2.2.2.2.2.2.2.1,y8.2.2.2.2.2.2.2.2.2.2.2.2.2.2.2.2.1,y8.2.2.2.2.2.2.2.2.2.2.2.2.2.2.2.2.2.1,y8.2.2.2.2.2.2.2.2.2.2.2.2.2.2.2.2.2.2.1,y8.2.2.2.2.2.2.2.2.2.2.2.2.2.2.2.2.2.2.2.1,y8.2.2.2.2.2.2.2.2.2.2.2.2.2.2.2.2.2.2.2.2.1,y8.2.2.2.2.2.2.2.2.2.2.2.2.2.2.2.2.2.2.2.2.2.1,y8.2.2.2.2.2.2.2.2.2.2.2.2.2.2.2.2.2.2.2.2.2.2.1,(y8.2.2.2.2.2.2.2.2.2.2.2.2.2.2.2.2.2.2.2.2.2.2.2.1.1,()),y8.2.2.2.2.2.2.2.2.2.2.2.2.2.2.2.2.2.2.2.2.2.2.2.2.1,y8.2.2.2.2.2.2.2.2.2.2.2.2.2.2.2.2.2.2.2.2.2.2.2.2.2.1,y8.2.2.2.2.2.2.2.2.2.2.2.2.2.2.2.2.2.2.2.2.2.2.2.2.2.2.1,(y8.2.2.2.2.2.2.2.2.2.2.2.2.2.2.2.2.2.2.2.2.2.2.2.2.2.2.2.1.1,()),y8.2.2.2.2.2.2.2.2.2.2.2.2.2.2.2.2.2.2.2.2.2.2.2.2.2.2.2.2.1,(y8.2.2.2.2.2.2.2.2.2.2.2.2.2.2.2.2.2.2.2.2.2.2.2.2.2.2.2.2.2.1.1,()),y8.2.2.2.2.2.2.2.2.2.2.2.2.2.2.2.2.2.2.2.2.2.2.2.2.2.2.2.2.2.2.1,(y8.2.2.2.2.2.2.2.2.2.2.2.2.2.2.2.2.2.2.2.2.2.2.2.2.2.2.2.2.2.2.2.1.1,()),()))).bind fun y9 =>
 (loopN zq779 FUEL (((),(v0,()),(),(),(),(),(),(),(v1,()),(),(v2,()),(),(),(0,()),()),(y9.2.1,y9.2.2.1,y9.2.2.2.1,y9.2.2.2.2.1,y9.2.2.2.2.2.1,(y9.2.2.2.2.2.2.1.1,()),(y9.2.2.2.2.2.2.2.1.1,()),(y9.2.2.2.2.2.2.2.2.1.1,y9.2.2.2.2.2.2.2.2.1.2.1,y9.2.2.2.2.2.2.2.2.1.2.2.1,y9.2.2.2.2.2.2.2.2.1.2.2.2.1,()),(y9.2.2.2.2.2.2.2.2.2.1.1,()),(y9.2.2.2.2.2.2.2.2.2.2.1.1,y9.2.2.2.2.2.2.2.2.2.2.1.2.1,y9.2.2.2.2.2.2.2.2.2.2.1.2.2.1,y9.2.2.2.2.2.2.2.2.2.2.1.2.2.2.1,()),y9.2.2.2.2.2.2.2.2.2.2.2.1,(y9.2.2.2.2.2.2.2.2.2.2.2.2.1.1,()),y9.2.2.2.2.2.2.2.2.2.2.2.2.2.2.2.2.2.2.2.2.2.2.2.2.2.2.2.2.1,y9.2.2.2.2.2.2.2.2.2.2.2.2.2.2.2.2.2.2.2.2.2.2.2.2.2.2.2.2.2.2.1,y9.2.2.2.2.2.2.2.2.2.2.2.2.2.1,y9.2.2.2.2.2.2.2.2.2.2.2.2.2.2.1,y9.2.2.2.2.2.2.2.2.2.2.2.2.2.2.2.1,y9.2.2.2.2.2.2.2.2.2.2.2.2.2.2.2.2.1,y9.2.2.2.2.2.2.2.2.2.2.2.2.2.2.2.2.2.1,y9.2.2.2.2.2.2.2.2.2.2.2.2.2.2.2.2.2.2.1,y9.2.2.2.2.2.2.2.2.2.2.2.2.2.2.2.2.2.2.2.1,()))).bind fun y10 =>
 (loopN zq782 FUEL (((),(y10.1.2.1.1,()),(),(),(),(),(),(),(y10.1.2.2.2.2.2.2.2.2.1.1,()),(),(y10.1.2.2.2.2.2.2.2.2.2.2.1.1,()),(),(0,()),()),(y10.2.1,y10.2.2.1,y10.2.2.2.1,y10.2.2.2.2.1,y10.2.2.2.2.2.1,(y10.2.2.2.2.2.2.1.1,()),(y10.2.2.2.2.2.2.2.1.1,()),(y10.2.2.2.2.2.2.2.2.1.1,y10.2.2.2.2.2.2.2.2.1.2.1,y10.2.2.2.2.2.2.2.2.1.2.2.1,y10.2.2.2.2.2.2.2.2.1.2.2.2.1,()),(y10.2.2.2.2.2.2.2.2.2.1.1,()),(y10.2.2.2.2.2.2.2.2.2.2.1.1,y10.2.2.2.2.2.2.2.2.2.2.1.2.1,y10.2.2.2.2.2.2.2.2.2.2.1.2.2.1,y10.2.2.2.2.2.2.2.2.2.2.1.2.2.2.1,()),y10.2.2.2.2.2.2.2.2.2.2.2.1,(y10.2.2.2.2.2.2.2.2.2.2.2.2.1.1,()),y10.2.2.2.2.2.2.2.2.2.2.2.2.2.1,y10.2.2.2.2.2.2.2.2.2.2.2.2.2.2.1,y10.2.2.2.2.2.2.2.2.2.2.2.2.2.2.2.1,y10.2.2.2.2.2.2.2.2.2.2.2.2.2.2.2.2.1,y10.2.2.2.2.2.2.2.2.2.2.2.2.2.2.2.2.2.1,y10.2.2.2.2.2.2.2.2.2.2.2.2.2.2.2.2.2.2.1,y10.2.2.2.2.2.2.2.2.2.2.2.2.2.2.2.2.2.2.2.1,y10.2.2.2.2.2.2.2.2.2.2.2.2.2.2.2.2.2.2.2.2.1,()))).bind fun y11 =>
 req (i64ok (y11.1.2.2.2.2.2.2.2.2.2.2.1.1 + 1)) <|
 rec (((),(y11.1.2.1.1,()),(),(),(),(),(),(),(y11.1.2.2.2.2.2.2.2.2.1.1,()),(),(y11.1.2.2.2.2.2.2.2.2.2.2.1.1 + 1,()),()),(y11.2.1,y11.2.2.1,y11.2.2.2.1,y11.2.2.2.2.1,y11.2.2.2.2.2.1,(y11.2.2.2.2.2.2.1.1,()),(y11.2.2.2.2.2.2.2.1.1,()),(y11.2.2.2.2.2.2.2.2.1.1,y11.2.2.2.2.2.2.2.2.1.2.1,y11.2.2.2.2.2.2.2.2.1.2.2.1,y11.2.2.2.2.2.2.2.2.1.2.2.2.1,()),(y11.2.2.2.2.2.2.2.2.2.1.1,()),(y11.2.2.2.2.2.2.2.2.2.2.1.1,y11.2.2.2.2.2.2.2.2.2.2.1.2.1,y11.2.2.2.2.2.2.2.2.2.2.1.2.2.1,y11.2.2.2.2.2.2.2.2.2.2.1.2.2.2.1,()),y11.2.2.2.2.2.2.2.2.2.2.2.1,(y11.2.2.2.2.2.2.2.2.2.2.2.2.1.1,()),y11.2.2.2.2.2.2.2.2.2.2.2.2.2.1,y11.2.2.2.2.2.2.2.2.2.2.2.2.2.2.1,y11.2.2.2.2.2.2.2.2.2.2.2.2.2.2.2.1,y11.2.2.2.2.2.2.2.2.2.2.2.2.2.2.2.2.1,y11.2.2.2.2.2.2.2.2.2.2.2.2.2.2.2.2.2.1,y11.2.2.2.2.2.2.2.2.2.2.2.2.2.2.2.2.2.2.1,y11.2.2.2.2.2.2.2.2.2.2.2.2.2.2.2.2.2.2.2.1,())))))
 (some (Sum.inr (((),(v3,v4,v5,v6,v7,())))))
def zq778 (a0 : List Pf × List (List Ad)) (a1 : List Ls) (a2 : Int) (a3 : Oq) (a4 : Pf) (a5 : List Ad) (a6 : List Ls) (a7 : ByteArray) (y3 : (((List Pf × List (List Ad)) × (List Ls) × Int × Unit) × Unit)) :=
 some (((()),(a7,()),(()),(()),(()),(()),(()),(()),()),(a0.2,a0.1,a1,a5,a6,(a2,()),(a3,()),(a4.ad.v6,a4.ad.hi,a4.ad.lo,a4.bits,()),(y3.1.2.2.1,()),(a4.ad.v6,a4.ad.hi,a4.ad.lo,a4.bits,()),([] : List Ls) ++ a6,y3.1.1.1,y3.1.2.1,([] : List Ad) ++ a5,y3.1.1.2,()))
def zq776 (f0 : type_of% zq850) (f1 : type_of% zq829) (f2 : type_of% zq815) (f3 : type_of% zq89) (f4 : type_of% zq119) (g2 : type_of% (loopN zq785 FUEL)) (a0 : List Pf × List (List Ad)) (a1 : List Ls) (a2 : Int) (a3 : Oq) (a4 : Pf) (a5 : List Ad) (a6 : List Ls) (a7 : ByteArray) : Option (Bool × Unit) :=
 f0.bind fun y1 =>
 (br (!y1.1)
 (some true)
 (f1.bind fun y2 =>
 some (!y2.1))).bind fun c2 =>
 br c2
 (some (false,()))
 ((both
 ((f2 a0 a1 a2).bind fun y3 =>
 both
 (both
 (req (room (lenL ([] : List Ad)) (lenL a5)) <|
 both
 (both
 (req (room (lenL ([] : List Ls)) (lenL a6)) <|
 dup 1 <|
 zq778 a0 a1 a2 a3 a4 a5 a6 a7 y3)
 (both
 (dup 1 <|
 req (room (lenL ([] : List Ls)) (lenL a6)) <|
 zq778 a0 a1 a2 a3 a4 a5 a6 a7 y3)
 (dup 1 <|
 req (room (lenL ([] : List Ls)) (lenL a6)) <|
 zq778 a0 a1 a2 a3 a4 a5 a6 a7 y3)))
 (both
 (both
 (dup 1 <|
 req (room (lenL ([] : List Ls)) (lenL a6)) <|
 zq778 a0 a1 a2 a3 a4 a5 a6 a7 y3)
 (req (room (lenL ([] : List Ls)) (lenL a6)) <|
 zq778 a0 a1 a2 a3 a4 a5 a6 a7 y3))
 (both
 (dup 1 <|
 req (room (lenL ([] : List Ls)) (lenL a6)) <|
 zq778 a0 a1 a2 a3 a4 a5 a6 a7 y3)
 (req (room (lenL ([] : List Ls)) (lenL a6)) <|
 zq778 a0 a1 a2 a3 a4 a5 a6 a7 y3))))
 (both
 (both
 (req (room (lenL ([] : List Ad)) (lenL a5)) <|
 both
 (req (room (lenL ([] : List Ls)) (lenL a6)) <|
 dup 1 <|
 zq778 a0 a1 a2 a3 a4 a5 a6 a7 y3)
 (both
 (dup 1 <|
 req (room (lenL ([] : List Ls)) (lenL a6)) <|
 zq778 a0 a1 a2 a3 a4 a5 a6 a7 y3)
 (dup 1 <|
 req (room (lenL ([] : List Ls)) (lenL a6)) <|
 zq778 a0 a1 a2 a3 a4 a5 a6 a7 y3)))
 (both
 (both
 (req (room (lenL ([] : List Ad)) (lenL a5)) <|
 dup 1 <|
 req (room (lenL ([] : List Ls)) (lenL a6)) <|
 zq778 a0 a1 a2 a3 a4 a5 a6 a7 y3)
 (req (room (lenL ([] : List Ad)) (lenL a5)) <|
 req (room (lenL ([] : List Ls)) (lenL a6)) <|
 zq778 a0 a1 a2 a3 a4 a5 a6 a7 y3))
 (both
 (req (room (lenL ([] : List Ad)) (lenL a5)) <|
 dup 1 <|
 req (room (lenL ([] : List Ls)) (lenL a6)) <|
 zq778 a0 a1 a2 a3 a4 a5 a6 a7 y3)
 (req (room (lenL ([] : List Ad)) (lenL a5)) <|
 req (room (lenL ([] : List Ls)) (lenL a6)) <|
 zq778 a0 a1 a2 a3 a4 a5 a6 a7 y3))))
 (both
 (both
 (req (room (lenL ([] : List Ad)) (lenL a5)) <|
 both
 (dup 1 <|
 req (room (lenL ([] : List Ls)) (lenL a6)) <|
 zq778 a0 a1 a2 a3 a4 a5 a6 a7 y3)
 (req (room (lenL ([] : List Ls)) (lenL a6)) <|
 zq778 a0 a1 a2 a3 a4 a5 a6 a7 y3))
 (both
 (both
 (req (room (lenL ([] : List Ad)) (lenL a5)) <|
 dup 1 <|
 req (room (lenL ([] : List Ls)) (lenL a6)) <|
 zq778 a0 a1 a2 a3 a4 a5 a6 a7 y3)
 (req (room (lenL ([] : List Ad)) (lenL a5)) <|
 req (room (lenL ([] : List Ls)) (lenL a6)) <|
 zq778 a0 a1 a2 a3 a4 a5 a6 a7 y3))
 (dup 1 <|
 req (room (lenL ([] : List Ad)) (lenL a5)) <|
 req (room (lenL ([] : List Ls)) (lenL a6)) <|
 zq778 a0 a1 a2 a3 a4 a5 a6 a7 y3)))
 (both
 (req (room (lenL ([] : List Ad)) (lenL a5)) <|
 both
 (dup 1 <|
 req (room (lenL ([] : List Ls)) (lenL a6)) <|
 zq778 a0 a1 a2 a3 a4 a5 a6 a7 y3)
 (req (room (lenL ([] : List Ls)) (lenL a6)) <|
 zq778 a0 a1 a2 a3 a4 a5 a6 a7 y3))
 (both
 (both
 (req (room (lenL ([] : List Ad)) (lenL a5)) <|
 dup 1 <|
 req (room (lenL ([] : List Ls)) (lenL a6)) <|
 zq778 a0 a1 a2 a3 a4 a5 a6 a7 y3)
 (req (room (lenL ([] : List Ad)) (lenL a5)) <|
 req (room (lenL ([] : List Ls)) (lenL a6)) <|
 zq778 a0 a1 a2 a3 a4 a5 a6 a7 y3))
 (dup 1 <|
 req (room (lenL ([] : List Ad)) (lenL a5)) <|
 req (room (lenL ([] : List Ls)) (lenL a6)) <|
 zq778 a0 a1 a2 a3 a4 a5 a6 a7 y3))))))
 (both
 (both
 (both
 (req (room (lenL ([] : List Ad)) (lenL a5)) <|
 both
 (req (room (lenL ([] : List Ls)) (lenL a6)) <|
 dup 1 <|
 zq778 a0 a1 a2 a3 a4 a5 a6 a7 y3)
 (both
 (dup 1 <|
 req (room (lenL ([] : List Ls)) (lenL a6)) <|
 zq778 a0 a1 a2 a3 a4 a5 a6 a7 y3)
 (dup 1 <|
 req (room (lenL ([] : List Ls)) (lenL a6)) <|
 zq778 a0 a1 a2 a3 a4 a5 a6 a7 y3)))
 (both
 (both
 (req (room (lenL ([] : List Ad)) (lenL a5)) <|
 dup 1 <|
 req (room (lenL ([] : List Ls)) (lenL a6)) <|
 zq778 a0 a1 a2 a3 a4 a5 a6 a7 y3)
 (req (room (lenL ([] : List Ad)) (lenL a5)) <|
 req (room (lenL ([] : List Ls)) (lenL a6)) <|
 zq778 a0 a1 a2 a3 a4 a5 a6 a7 y3))
 (both
 (req (room (lenL ([] : List Ad)) (lenL a5)) <|
 dup 1 <|
 req (room (lenL ([] : List Ls)) (lenL a6)) <|
 zq778 a0 a1 a2 a3 a4 a5 a6 a7 y3)
 (req (room (lenL ([] : List Ad)) (lenL a5)) <|
 req (room (lenL ([] : List Ls)) (lenL a6)) <|
 zq778 a0 a1 a2 a3 a4 a5 a6 a7 y3))))
 (both
 (both
 (both
 (req (room (lenL ([] : List Ad)) (lenL a5)) <|
 dup 1 <|
 req (room (lenL ([] : List Ls)) (lenL a6)) <|
 zq778 a0 a1 a2 a3 a4 a5 a6 a7 y3)
 (req (room (lenL ([] : List Ad)) (lenL a5)) <|
 req (room (lenL ([] : List Ls)) (lenL a6)) <|
 zq778 a0 a1 a2 a3 a4 a5 a6 a7 y3))
 (req (room (lenL ([] : List Ad)) (lenL a5)) <|
 req (room (lenL ([] : List Ls)) (lenL a6)) <|
 zq778 a0 a1 a2 a3 a4 a5 a6 a7 y3))
 (both
 (both
 (req (room (lenL ([] : List Ad)) (lenL a5)) <|
 dup 1 <|
 req (room (lenL ([] : List Ls)) (lenL a6)) <|
 zq778 a0 a1 a2 a3 a4 a5 a6 a7 y3)
 (req (room (lenL ([] : List Ad)) (lenL a5)) <|
 req (room (lenL ([] : List Ls)) (lenL a6)) <|
 zq778 a0 a1 a2 a3 a4 a5 a6 a7 y3))
 (req (room (lenL ([] : List Ad)) (lenL a5)) <|
 req (room (lenL ([] : List Ls)) (lenL a6)) <|
 zq778 a0 a1 a2 a3 a4 a5 a6 a7 y3))))
 (both
 (both
 (both
 (req (room (lenL ([] : List Ad)) (lenL a5)) <|
 both
 (dup 1 <|
 req (room (lenL ([] : List Ls)) (lenL a6)) <|
 zq778 a0 a1 a2 a3 a4 a5 a6 a7 y3)
 (req (room (lenL ([] : List Ls)) (lenL a6)) <|
 zq778 a0 a1 a2 a3 a4 a5 a6 a7 y3))
 (both
 (both
 (req (room (lenL ([] : List Ad)) (lenL a5)) <|
 dup 1 <|
 req (room (lenL ([] : List Ls)) (lenL a6)) <|
 zq778 a0 a1 a2 a3 a4 a5 a6 a7 y3)
 (req (room (lenL ([] : List Ad)) (lenL a5)) <|
 req (room (lenL ([] : List Ls)) (lenL a6)) <|
 zq778 a0 a1 a2 a3 a4 a5 a6 a7 y3))
 (dup 1 <|
 req (room (lenL ([] : List Ad)) (lenL a5)) <|
 req (room (lenL ([] : List Ls)) (lenL a6)) <|
 zq778 a0 a1 a2 a3 a4 a5 a6 a7 y3)))
 (both
 (both
 (both
 (req (room (lenL ([] : List Ad)) (lenL a5)) <|
 dup 1 <|
 req (room (lenL ([] : List Ls)) (lenL a6)) <|
 zq778 a0 a1 a2 a3 a4 a5 a6 a7 y3)
 (req (room (lenL ([] : List Ad)) (lenL a5)) <|
 req (room (lenL ([] : List Ls)) (lenL a6)) <|
 zq778 a0 a1 a2 a3 a4 a5 a6 a7 y3))
 (req (room (lenL ([] : List Ad)) (lenL a5)) <|
 req (room (lenL ([] : List Ls)) (lenL a6)) <|
 zq778 a0 a1 a2 a3 a4 a5 a6 a7 y3))
 (both
 (dup 1 <|
 req (room (lenL ([] : List Ad)) (lenL a5)) <|
 req (room (lenL ([] : List Ls)) (lenL a6)) <|
 zq778 a0 a1 a2 a3 a4 a5 a6 a7 y3)
 (req (room (lenL ([] : List Ad)) (lenL a5)) <|
 req (room (lenL ([] : List Ls)) (lenL a6)) <|
 zq778 a0 a1 a2 a3 a4 a5 a6 a7 y3))))
 (both
 (both
 (req (room (lenL ([] : List Ad)) (lenL a5)) <|
 both
 (dup 1 <|
 req (room (lenL ([] : List Ls)) (lenL a6)) <|
 zq778 a0 a1 a2 a3 a4 a5 a6 a7 y3)
 (req (room (lenL ([] : List Ls)) (lenL a6)) <|
 zq778 a0 a1 a2 a3 a4 a5 a6 a7 y3))
 (both
 (both
 (req (room (lenL ([] : List Ad)) (lenL a5)) <|
 dup 1 <|
 req (room (lenL ([] : List Ls)) (lenL a6)) <|
 zq778 a0 a1 a2 a3 a4 a5 a6 a7 y3)
 (req (room (lenL ([] : List Ad)) (lenL a5)) <|
 req (room (lenL ([] : List Ls)) (lenL a6)) <|
 zq778 a0 a1 a2 a3 a4 a5 a6 a7 y3))
 (dup 1 <|
 req (room (lenL ([] : List Ad)) (lenL a5)) <|
 req (room (lenL ([] : List Ls)) (lenL a6)) <|
 zq778 a0 a1 a2 a3 a4 a5 a6 a7 y3)))
 (both
 (both
 (both
 (req (room (lenL ([] : List Ad)) (lenL a5)) <|
 dup 1 <|
 req (room (lenL ([] : List Ls)) (lenL a6)) <|
 zq778 a0 a1 a2 a3 a4 a5 a6 a7 y3)
 (req (room (lenL ([] : List Ad)) (lenL a5)) <|
 req (room (lenL ([] : List Ls)) (lenL a6)) <|
 zq778 a0 a1 a2 a3 a4 a5 a6 a7 y3))
 (req (room (lenL ([] : List Ad)) (lenL a5)) <|
 req (room (lenL ([] : List Ls)) (lenL a6)) <|
 zq778 a0 a1 a2 a3 a4 a5 a6 a7 y3))
 (both
 (dup 1 <|
 req (room (lenL ([] : List Ad)) (lenL a5)) <|
 req (room (lenL ([] : List Ls)) (lenL a6)) <|
 zq778 a0 a1 a2 a3 a4 a5 a6 a7 y3)
 (req (room (lenL ([] : List Ad)) (lenL a5)) <|
 req (room (lenL ([] : List Ls)) (lenL a6)) <|
 zq778 a0 a1 a2 a3 a4 a5 a6 a7 y3)))))))
 (both
 (both
 ((f2 a0 a1 a2).bind fun y3 =>
 both
 (req (room (lenL ([] : List Ad)) (lenL a5)) <|
 both
 (both
 (req (room (lenL ([] : List Ls)) (lenL a6)) <|
 dup 1 <|
 zq778 a0 a1 a2 a3 a4 a5 a6 a7 y3)
 (both
 (dup 1 <|
 req (room (lenL ([] : List Ls)) (lenL a6)) <|
 zq778 a0 a1 a2 a3 a4 a5 a6 a7 y3)
 (dup 1 <|
 req (room (lenL ([] : List Ls)) (lenL a6)) <|
 zq778 a0 a1 a2 a3 a4 a5 a6 a7 y3)))
 (both
 (both
 (dup 1 <|
 req (room (lenL ([] : List Ls)) (lenL a6)) <|
 zq778 a0 a1 a2 a3 a4 a5 a6 a7 y3)
 (req (room (lenL ([] : List Ls)) (lenL a6)) <|
 zq778 a0 a1 a2 a3 a4 a5 a6 a7 y3))
 (both
 (dup 1 <|
 req (room (lenL ([] : List Ls)) (lenL a6)) <|
 zq778 a0 a1 a2 a3 a4 a5 a6 a7 y3)
 (req (room (lenL ([] : List Ls)) (lenL a6)) <|
 zq778 a0 a1 a2 a3 a4 a5 a6 a7 y3))))
 (both
 (both
 (req (room (lenL ([] : List Ad)) (lenL a5)) <|
 both
 (req (room (lenL ([] : List Ls)) (lenL a6)) <|
 dup 1 <|
 zq778 a0 a1 a2 a3 a4 a5 a6 a7 y3)
 (both
 (dup 1 <|
 req (room (lenL ([] : List Ls)) (lenL a6)) <|
 zq778 a0 a1 a2 a3 a4 a5 a6 a7 y3)
 (dup 1 <|
 req (room (lenL ([] : List Ls)) (lenL a6)) <|
 zq778 a0 a1 a2 a3 a4 a5 a6 a7 y3)))
 (both
 (both
 (req (room (lenL ([] : List Ad)) (lenL a5)) <|
 dup 1 <|
 req (room (lenL ([] : List Ls)) (lenL a6)) <|
 zq778 a0 a1 a2 a3 a4 a5 a6 a7 y3)
 (req (room (lenL ([] : List Ad)) (lenL a5)) <|
 req (room (lenL ([] : List Ls)) (lenL a6)) <|
 zq778 a0 a1 a2 a3 a4 a5 a6 a7 y3))
 (both
 (req (room (lenL ([] : List Ad)) (lenL a5)) <|
 dup 1 <|
 req (room (lenL ([] : List Ls)) (lenL a6)) <|
 zq778 a0 a1 a2 a3 a4 a5 a6 a7 y3)
 (req (room (lenL ([] : List Ad)) (lenL a5)) <|
 req (room (lenL ([] : List Ls)) (lenL a6)) <|
 zq778 a0 a1 a2 a3 a4 a5 a6 a7 y3))))
 (both
 (both
 (req (room (lenL ([] : List Ad)) (lenL a5)) <|
 both
 (dup 1 <|
 req (room (lenL ([] : List Ls)) (lenL a6)) <|
 zq778 a0 a1 a2 a3 a4 a5 a6 a7 y3)
 (req (room (lenL ([] : List Ls)) (lenL a6)) <|
 zq778 a0 a1 a2 a3 a4 a5 a6 a7 y3))
 (both
 (both
 (req (room (lenL ([] : List Ad)) (lenL a5)) <|
 dup 1 <|
 req (room (lenL ([] : List Ls)) (lenL a6)) <|
 zq778 a0 a1 a2 a3 a4 a5 a6 a7 y3)
 (req (room (lenL ([] : List Ad)) (lenL a5)) <|
 req (room (lenL ([] : List Ls)) (lenL a6)) <|
 zq778 a0 a1 a2 a3 a4 a5 a6 a7 y3))
 (dup 1 <|
 req (room (lenL ([] : List Ad)) (lenL a5)) <|
 req (room (lenL ([] : List Ls)) (lenL a6)) <|
 zq778 a0 a1 a2 a3 a4 a5 a6 a7 y3)))
 (both
 (req (room (lenL ([] : List Ad)) (lenL a5)) <|
 both
 (dup 1 <|
 req (room (lenL ([] : List Ls)) (lenL a6)) <|
 zq778 a0 a1 a2 a3 a4 a5 a6 a7 y3)
 (req (room (lenL ([] : List Ls)) (lenL a6)) <|
 zq778 a0 a1 a2 a3 a4 a5 a6 a7 y3))
 (both
 (both
 (req (room (lenL ([] : List Ad)) (lenL a5)) <|
 dup 1 <|
 req (room (lenL ([] : List Ls)) (lenL a6)) <|
 zq778 a0 a1 a2 a3 a4 a5 a6 a7 y3)
 (req (room (lenL ([] : List Ad)) (lenL a5)) <|
 req (room (lenL ([] : List Ls)) (lenL a6)) <|
 zq778 a0 a1 a2 a3 a4 a5 a6 a7 y3))
 (dup 1 <|
 req (room (lenL ([] : List Ad)) (lenL a5)) <|
 req (room (lenL ([] : List Ls)) (lenL a6)) <|
 zq778 a0 a1 a2 a3 a4 a5 a6 a7 y3))))))
 (both
 (both
 ((f2 a0 a1 a2).bind fun y3 =>
 both
 (req (room (lenL ([] : List Ad)) (lenL a5)) <|
 both
 (req (room (lenL ([] : List Ls)) (lenL a6)) <|
 dup 1 <|
 zq778 a0 a1 a2 a3 a4 a5 a6 a7 y3)
 (both
 (dup 1 <|
 req (room (lenL ([] : List Ls)) (lenL a6)) <|
 zq778 a0 a1 a2 a3 a4 a5 a6 a7 y3)
 (dup 1 <|
 req (room (lenL ([] : List Ls)) (lenL a6)) <|
 zq778 a0 a1 a2 a3 a4 a5 a6 a7 y3)))
 (both
 (both
 (req (room (lenL ([] : List Ad)) (lenL a5)) <|
 dup 1 <|
 req (room (lenL ([] : List Ls)) (lenL a6)) <|
 zq778 a0 a1 a2 a3 a4 a5 a6 a7 y3)
 (req (room (lenL ([] : List Ad)) (lenL a5)) <|
 req (room (lenL ([] : List Ls)) (lenL a6)) <|
 zq778 a0 a1 a2 a3 a4 a5 a6 a7 y3))
 (both
 (req (room (lenL ([] : List Ad)) (lenL a5)) <|
 dup 1 <|
 req (room (lenL ([] : List Ls)) (lenL a6)) <|
 zq778 a0 a1 a2 a3 a4 a5 a6 a7 y3)
 (req (room (lenL ([] : List Ad)) (lenL a5)) <|
 req (room (lenL ([] : List Ls)) (lenL a6)) <|
 zq778 a0 a1 a2 a3 a4 a5 a6 a7 y3))))
 (both
 (both
 ((f2 a0 a1 a2).bind fun y3 =>
 both
 (req (room (lenL ([] : List Ad)) (lenL a5)) <|
 dup 1 <|
 req (room (lenL ([] : List Ls)) (lenL a6)) <|
 zq778 a0 a1 a2 a3 a4 a5 a6 a7 y3)
 (req (room (lenL ([] : List Ad)) (lenL a5)) <|
 req (room (lenL ([] : List Ls)) (lenL a6)) <|
 zq778 a0 a1 a2 a3 a4 a5 a6 a7 y3))
 ((f2 a0 a1 a2).bind fun y3 =>
 req (room (lenL ([] : List Ad)) (lenL a5)) <|
 req (room (lenL ([] : List Ls)) (lenL a6)) <|
 zq778 a0 a1 a2 a3 a4 a5 a6 a7 y3))
 (both
 ((f2 a0 a1 a2).bind fun y3 =>
 both
 (req (room (lenL ([] : List Ad)) (lenL a5)) <|
 dup 1 <|
 req (room (lenL ([] : List Ls)) (lenL a6)) <|
 zq778 a0 a1 a2 a3 a4 a5 a6 a7 y3)
 (req (room (lenL ([] : List Ad)) (lenL a5)) <|
 req (room (lenL ([] : List Ls)) (lenL a6)) <|
 zq778 a0 a1 a2 a3 a4 a5 a6 a7 y3))
 ((f2 a0 a1 a2).bind fun y3 =>
 req (room (lenL ([] : List Ad)) (lenL a5)) <|
 req (room (lenL ([] : List Ls)) (lenL a6)) <|
 zq778 a0 a1 a2 a3 a4 a5 a6 a7 y3))))
 (both
 (both
 ((f2 a0 a1 a2).bind fun y3 =>
 both
 (req (room (lenL ([] : List Ad)) (lenL a5)) <|
 both
 (dup 1 <|
 req (room (lenL ([] : List Ls)) (lenL a6)) <|
 zq778 a0 a1 a2 a3 a4 a5 a6 a7 y3)
 (req (room (lenL ([] : List Ls)) (lenL a6)) <|
 zq778 a0 a1 a2 a3 a4 a5 a6 a7 y3))
 (both
 (both
 (req (room (lenL ([] : List Ad)) (lenL a5)) <|
 dup 1 <|
 req (room (lenL ([] : List Ls)) (lenL a6)) <|
 zq778 a0 a1 a2 a3 a4 a5 a6 a7 y3)
 (req (room (lenL ([] : List Ad)) (lenL a5)) <|
 req (room (lenL ([] : List Ls)) (lenL a6)) <|
 zq778 a0 a1 a2 a3 a4 a5 a6 a7 y3))
 (dup 1 <|
 req (room (lenL ([] : List Ad)) (lenL a5)) <|
 req (room (lenL ([] : List Ls)) (lenL a6)) <|
 zq778 a0 a1 a2 a3 a4 a5 a6 a7 y3)))
 (both
 (both
 ((f2 a0 a1 a2).bind fun y3 =>
 both
 (req (room (lenL ([] : List Ad)) (lenL a5)) <|
 dup 1 <|
 req (room (lenL ([] : List Ls)) (lenL a6)) <|
 zq778 a0 a1 a2 a3 a4 a5 a6 a7 y3)
 (req (room (lenL ([] : List Ad)) (lenL a5)) <|
 req (room (lenL ([] : List Ls)) (lenL a6)) <|
 zq778 a0 a1 a2 a3 a4 a5 a6 a7 y3))
 ((f2 a0 a1 a2).bind fun y3 =>
 req (room (lenL ([] : List Ad)) (lenL a5)) <|
 req (room (lenL ([] : List Ls)) (lenL a6)) <|
 zq778 a0 a1 a2 a3 a4 a5 a6 a7 y3))
 (both
 ((f2 a0 a1 a2).bind fun y3 =>
 dup 1 <|
 req (room (lenL ([] : List Ad)) (lenL a5)) <|
 req (room (lenL ([] : List Ls)) (lenL a6)) <|
 zq778 a0 a1 a2 a3 a4 a5 a6 a7 y3)
 ((f2 a0 a1 a2).bind fun y3 =>
 req (room (lenL ([] : List Ad)) (lenL a5)) <|
 req (room (lenL ([] : List Ls)) (lenL a6)) <|
 zq778 a0 a1 a2 a3 a4 a5 a6 a7 y3))))
 (both
 ((f2 a0 a1 a2).bind fun y3 =>
 both
 (req (room (lenL ([] : List Ad)) (lenL a5)) <|
 both
 (dup 1 <|
 req (room (lenL ([] : List Ls)) (lenL a6)) <|
 zq778 a0 a1 a2 a3 a4 a5 a6 a7 y3)
 (req (room (lenL ([] : List Ls)) (lenL a6)) <|
 zq778 a0 a1 a2 a3 a4 a5 a6 a7 y3))
 (both
 (both
 (req (room (lenL ([] : List Ad)) (lenL a5)) <|
 dup 1 <|
 req (room (lenL ([] : List Ls)) (lenL a6)) <|
 zq778 a0 a1 a2 a3 a4 a5 a6 a7 y3)
 (req (room (lenL ([] : List Ad)) (lenL a5)) <|
 req (room (lenL ([] : List Ls)) (lenL a6)) <|
 zq778 a0 a1 a2 a3 a4 a5 a6 a7 y3))
 (dup 1 <|
 req (room (lenL ([] : List Ad)) (lenL a5)) <|
 req (room (lenL ([] : List Ls)) (lenL a6)) <|
 zq778 a0 a1 a2 a3 a4 a5 a6 a7 y3)))
 (both
 (both
 ((f2 a0 a1 a2).bind fun y3 =>
 both
 (req (room (lenL ([] : List Ad)) (lenL a5)) <|
 dup 1 <|
 req (room (lenL ([] : List Ls)) (lenL a6)) <|
 zq778 a0 a1 a2 a3 a4 a5 a6 a7 y3)
 (req (room (lenL ([] : List Ad)) (lenL a5)) <|
 req (room (lenL ([] : List Ls)) (lenL a6)) <|
 zq778 a0 a1 a2 a3 a4 a5 a6 a7 y3))
 ((f2 a0 a1 a2).bind fun y3 =>
 req (room (lenL ([] : List Ad)) (lenL a5)) <|
 req (room (lenL ([] : List Ls)) (lenL a6)) <|
 zq778 a0 a1 a2 a3 a4 a5 a6 a7 y3))
 (both
 ((f2 a0 a1 a2).bind fun y3 =>
 dup 1 <|
 req (room (lenL ([] : List Ad)) (lenL a5)) <|
 req (room (lenL ([] : List Ls)) (lenL a6)) <|
 zq778 a0 a1 a2 a3 a4 a5 a6 a7 y3)
 ((f2 a0 a1 a2).bind fun y3 =>
 req (room (lenL ([] : List Ad)) (lenL a5)) <|
 req (room (lenL ([] : List Ls)) (lenL a6)) <|
 zq778 a0 a1 a2 a3 a4 a5 a6 a7 y3)))))))
 (both
 (both
 ((f2 a0 a1 a2).bind fun y3 =>
 both
 (both
 (req (room (lenL ([] : List Ad)) (lenL a5)) <|
 both
 (req (room (lenL ([] : List Ls)) (lenL a6)) <|
 dup 1 <|
 zq778 a0 a1 a2 a3 a4 a5 a6 a7 y3)
 (both
 (dup 1 <|
 req (room (lenL ([] : List Ls)) (lenL a6)) <|
 zq778 a0 a1 a2 a3 a4 a5 a6 a7 y3)
 (dup 1 <|
 req (room (lenL ([] : List Ls)) (lenL a6)) <|
 zq778 a0 a1 a2 a3 a4 a5 a6 a7 y3)))
 (both
 (both
 (req (room (lenL ([] : List Ad)) (lenL a5)) <|
 dup 1 <|
 req (room (lenL ([] : List Ls)) (lenL a6)) <|
 zq778 a0 a1 a2 a3 a4 a5 a6 a7 y3)
 (req (room (lenL ([] : List Ad)) (lenL a5)) <|
 req (room (lenL ([] : List Ls)) (lenL a6)) <|
 zq778 a0 a1 a2 a3 a4 a5 a6 a7 y3))
 (both
 (req (room (lenL ([] : List Ad)) (lenL a5)) <|
 dup 1 <|
 req (room (lenL ([] : List Ls)) (lenL a6)) <|
 zq778 a0 a1 a2 a3 a4 a5 a6 a7 y3)
 (req (room (lenL ([] : List Ad)) (lenL a5)) <|
 req (room (lenL ([] : List Ls)) (lenL a6)) <|
 zq778 a0 a1 a2 a3 a4 a5 a6 a7 y3))))
 (both
 (both
 (both
 (req (room (lenL ([] : List Ad)) (lenL a5)) <|
 dup 1 <|
 req (room (lenL ([] : List Ls)) (lenL a6)) <|
 zq778 a0 a1 a2 a3 a4 a5 a6 a7 y3)
 (req (room (lenL ([] : List Ad)) (lenL a5)) <|
 req (room (lenL ([] : List Ls)) (lenL a6)) <|
 zq778 a0 a1 a2 a3 a4 a5 a6 a7 y3))
 (req (room (lenL ([] : List Ad)) (lenL a5)) <|
 req (room (lenL ([] : List Ls)) (lenL a6)) <|
 zq778 a0 a1 a2 a3 a4 a5 a6 a7 y3))
 (both
 (both
 (req (room (lenL ([] : List Ad)) (lenL a5)) <|
 dup 1 <|
 req (room (lenL ([] : List Ls)) (lenL a6)) <|
 zq778 a0 a1 a2 a3 a4 a5 a6 a7 y3)
 (req (room (lenL ([] : List Ad)) (lenL a5)) <|
 req (room (lenL ([] : List Ls)) (lenL a6)) <|
 zq778 a0 a1 a2 a3 a4 a5 a6 a7 y3))
 (req (room (lenL ([] : List Ad)) (lenL a5)) <|
 req (room (lenL ([] : List Ls)) (lenL a6)) <|
 zq778 a0 a1 a2 a3 a4 a5 a6 a7 y3))))
 (both
 (both
 ((f2 a0 a1 a2).bind fun y3 =>
 both
 (req (room (lenL ([] : List Ad)) (lenL a5)) <|
 both
 (req (room (lenL ([] : List Ls)) (lenL a6)) <|
 dup 1 <|
 zq778 a0 a1 a2 a3 a4 a5 a6 a7 y3)
 (both
 (dup 1 <|
 req (room (lenL ([] : List Ls)) (lenL a6)) <|
 zq778 a0 a1 a2 a3 a4 a5 a6 a7 y3)
 (dup 1 <|
 req (room (lenL ([] : List Ls)) (lenL a6)) <|
 zq778 a0 a1 a2 a3 a4 a5 a6 a7 y3)))
 (both
 (both
 (req (room (lenL ([] : List Ad)) (lenL a5)) <|
 dup 1 <|
 req (room (lenL ([] : List Ls)) (lenL a6)) <|
 zq778 a0 a1 a2 a3 a4 a5 a6 a7 y3)
 (req (room (lenL ([] : List Ad)) (lenL a5)) <|
 req (room (lenL ([] : List Ls)) (lenL a6)) <|
 zq778 a0 a1 a2 a3 a4 a5 a6 a7 y3))
 (both
 (req (room (lenL ([] : List Ad)) (lenL a5)) <|
 dup 1 <|
 req (room (lenL ([] : List Ls)) (lenL a6)) <|
 zq778 a0 a1 a2 a3 a4 a5 a6 a7 y3)
 (req (room (lenL ([] : List Ad)) (lenL a5)) <|
 req (room (lenL ([] : List Ls)) (lenL a6)) <|
 zq778 a0 a1 a2 a3 a4 a5 a6 a7 y3))))
 (both
 (both
 ((f2 a0 a1 a2).bind fun y3 =>
 both
 (req (room (lenL ([] : List Ad)) (lenL a5)) <|
 dup 1 <|
 req (room (lenL ([] : List Ls)) (lenL a6)) <|
 zq778 a0 a1 a2 a3 a4 a5 a6 a7 y3)
 (req (room (lenL ([] : List Ad)) (lenL a5)) <|
 req (room (lenL ([] : List Ls)) (lenL a6)) <|
 zq778 a0 a1 a2 a3 a4 a5 a6 a7 y3))
 ((f2 a0 a1 a2).bind fun y3 =>
 req (room (lenL ([] : List Ad)) (lenL a5)) <|
 req (room (lenL ([] : List Ls)) (lenL a6)) <|
 zq778 a0 a1 a2 a3 a4 a5 a6 a7 y3))
 (both
 ((f2 a0 a1 a2).bind fun y3 =>
 both
 (req (room (lenL ([] : List Ad)) (lenL a5)) <|
 dup 1 <|
 req (room (lenL ([] : List Ls)) (lenL a6)) <|
 zq778 a0 a1 a2 a3 a4 a5 a6 a7 y3)
 (req (room (lenL ([] : List Ad)) (lenL a5)) <|
 req (room (lenL ([] : List Ls)) (lenL a6)) <|
 zq778 a0 a1 a2 a3 a4 a5 a6 a7 y3))
 ((f2 a0 a1 a2).bind fun y3 =>
 req (room (lenL ([] : List Ad)) (lenL a5)) <|
 req (room (lenL ([] : List Ls)) (lenL a6)) <|
 zq778 a0 a1 a2 a3 a4 a5 a6 a7 y3))))
 (both
 (both
 ((f2 a0 a1 a2).bind fun y3 =>
 both
 (both
 (req (room (lenL ([] : List Ad)) (lenL a5)) <|
 dup 1 <|
 req (room (lenL ([] : List Ls)) (lenL a6)) <|
 zq778 a0 a1 a2 a3 a4 a5 a6 a7 y3)
 (req (room (lenL ([] : List Ad)) (lenL a5)) <|
 req (room (lenL ([] : List Ls)) (lenL a6)) <|
 zq778 a0 a1 a2 a3 a4 a5 a6 a7 y3))
 (req (room (lenL ([] : List Ad)) (lenL a5)) <|
 req (room (lenL ([] : List Ls)) (lenL a6)) <|
 zq778 a0 a1 a2 a3 a4 a5 a6 a7 y3))
 (both
 (both
 ((f2 a0 a1 a2).bind fun y3 =>
 both
 (req (room (lenL ([] : List Ad)) (lenL a5)) <|
 dup 1 <|
 req (room (lenL ([] : List Ls)) (lenL a6)) <|
 zq778 a0 a1 a2 a3 a4 a5 a6 a7 y3)
 (req (room (lenL ([] : List Ad)) (lenL a5)) <|
 req (room (lenL ([] : List Ls)) (lenL a6)) <|
 zq778 a0 a1 a2 a3 a4 a5 a6 a7 y3))
 ((f2 a0 a1 a2).bind fun y3 =>
 req (room (lenL ([] : List Ad)) (lenL a5)) <|
 req (room (lenL ([] : List Ls)) (lenL a6)) <|
 zq778 a0 a1 a2 a3 a4 a5 a6 a7 y3))
 (dup 1 <|
 (f2 a0 a1 a2).bind fun y3 =>
 req (room (lenL ([] : List Ad)) (lenL a5)) <|
 req (room (lenL ([] : List Ls)) (lenL a6)) <|
 zq778 a0 a1 a2 a3 a4 a5 a6 a7 y3)))
 (both
 ((f2 a0 a1 a2).bind fun y3 =>
 both
 (both
 (req (room (lenL ([] : List Ad)) (lenL a5)) <|
 dup 1 <|
 req (room (lenL ([] : List Ls)) (lenL a6)) <|
 zq778 a0 a1 a2 a3 a4 a5 a6 a7 y3)
 (req (room (lenL ([] : List Ad)) (lenL a5)) <|
 req (room (lenL ([] : List Ls)) (lenL a6)) <|
 zq778 a0 a1 a2 a3 a4 a5 a6 a7 y3))
 (req (room (lenL ([] : List Ad)) (lenL a5)) <|
 req (room (lenL ([] : List Ls)) (lenL a6)) <|
 zq778 a0 a1 a2 a3 a4 a5 a6 a7 y3))
 (both
 (both
 ((f2 a0 a1 a2).bind fun y3 =>
 both
 (req (room (lenL ([] : List Ad)) (lenL a5)) <|
 dup 1 <|
 req (room (lenL ([] : List Ls)) (lenL a6)) <|
 zq778 a0 a1 a2 a3 a4 a5 a6 a7 y3)
 (req (room (lenL ([] : List Ad)) (lenL a5)) <|
 req (room (lenL ([] : List Ls)) (lenL a6)) <|
 zq778 a0 a1 a2 a3 a4 a5 a6 a7 y3))
 ((f2 a0 a1 a2).bind fun y3 =>
 req (room (lenL ([] : List Ad)) (lenL a5)) <|
 req (room (lenL ([] : List Ls)) (lenL a6)) <|
 zq778 a0 a1 a2 a3 a4 a5 a6 a7 y3))
 (dup 1 <|
 (f2 a0 a1 a2).bind fun y3 =>
 req (room (lenL ([] : List Ad)) (lenL a5)) <|
 req (room (lenL ([] : List Ls)) (lenL a6)) <|
 zq778 a0 a1 a2 a3 a4 a5 a6 a7 y3))))))
 (both
 (both
 ((f2 a0 a1 a2).bind fun y3 =>
 both
 (both
 (req (room (lenL ([] : List Ad)) (lenL a5)) <|
 both
 (dup 1 <|
 req (room (lenL ([] : List Ls)) (lenL a6)) <|
 zq778 a0 a1 a2 a3 a4 a5 a6 a7 y3)
 (req (room (lenL ([] : List Ls)) (lenL a6)) <|
 zq778 a0 a1 a2 a3 a4 a5 a6 a7 y3))
 (both
 (both
 (req (room (lenL ([] : List Ad)) (lenL a5)) <|
 dup 1 <|
 req (room (lenL ([] : List Ls)) (lenL a6)) <|
 zq778 a0 a1 a2 a3 a4 a5 a6 a7 y3)
 (req (room (lenL ([] : List Ad)) (lenL a5)) <|
 req (room (lenL ([] : List Ls)) (lenL a6)) <|
 zq778 a0 a1 a2 a3 a4 a5 a6 a7 y3))
 (dup 1 <|
 req (room (lenL ([] : List Ad)) (lenL a5)) <|
 req (room (lenL ([] : List Ls)) (lenL a6)) <|
 zq778 a0 a1 a2 a3 a4 a5 a6 a7 y3)))
 (both
 (both
 (both
 (req (room (lenL ([] : List Ad)) (lenL a5)) <|
 dup 1 <|
 req (room (lenL ([] : List Ls)) (lenL a6)) <|
 zq778 a0 a1 a2 a3 a4 a5 a6 a7 y3)
 (req (room (lenL ([] : List Ad)) (lenL a5)) <|
 req (room (lenL ([] : List Ls)) (lenL a6)) <|
 zq778 a0 a1 a2 a3 a4 a5 a6 a7 y3))
 (req (room (lenL ([] : List Ad)) (lenL a5)) <|
 req (room (lenL ([] : List Ls)) (lenL a6)) <|
 zq778 a0 a1 a2 a3 a4 a5 a6 a7 y3))
 (both
 (dup 1 <|
 req (room (lenL ([] : List Ad)) (lenL a5)) <|
 req (room (lenL ([] : List Ls)) (lenL a6)) <|
 zq778 a0 a1 a2 a3 a4 a5 a6 a7 y3)
 (req (room (lenL ([] : List Ad)) (lenL a5)) <|
 req (room (lenL ([] : List Ls)) (lenL a6)) <|
 zq778 a0 a1 a2 a3 a4 a5 a6 a7 y3))))
 (both
 (both
 ((f2 a0 a1 a2).bind fun y3 =>
 both
 (req (room (lenL ([] : List Ad)) (lenL a5)) <|
 both
 (dup 1 <|
 req (room (lenL ([] : List Ls)) (lenL a6)) <|
 zq778 a0 a1 a2 a3 a4 a5 a6 a7 y3)
 (req (room (lenL ([] : List Ls)) (lenL a6)) <|
 zq778 a0 a1 a2 a3 a4 a5 a6 a7 y3))
 (both
 (both
 (req (room (lenL ([] : List Ad)) (lenL a5)) <|
 dup 1 <|
 req (room (lenL ([] : List Ls)) (lenL a6)) <|
 zq778 a0 a1 a2 a3 a4 a5 a6 a7 y3)
 (req (room (lenL ([] : List Ad)) (lenL a5)) <|
 req (room (lenL ([] : List Ls)) (lenL a6)) <|
 zq778 a0 a1 a2 a3 a4 a5 a6 a7 y3))
 (dup 1 <|
 req (room (lenL ([] : List Ad)) (lenL a5)) <|
 req (room (lenL ([] : List Ls)) (lenL a6)) <|
 zq778 a0 a1 a2 a3 a4 a5 a6 a7 y3)))
 (both
 (both
 ((f2 a0 a1 a2).bind fun y3 =>
 both
 (req (room (lenL ([] : List Ad)) (lenL a5)) <|
 dup 1 <|
 req (room (lenL ([] : List Ls)) (lenL a6)) <|
 zq778 a0 a1 a2 a3 a4 a5 a6 a7 y3)
 (req (room (lenL ([] : List Ad)) (lenL a5)) <|
 req (room (lenL ([] : List Ls)) (lenL a6)) <|
 zq778 a0 a1 a2 a3 a4 a5 a6 a7 y3))
 ((f2 a0 a1 a2).bind fun y3 =>
 req (room (lenL ([] : List Ad)) (lenL a5)) <|
 req (room (lenL ([] : List Ls)) (lenL a6)) <|
 zq778 a0 a1 a2 a3 a4 a5 a6 a7 y3))
 (both
 ((f2 a0 a1 a2).bind fun y3 =>
 dup 1 <|
 req (room (lenL ([] : List Ad)) (lenL a5)) <|
 req (room (lenL ([] : List Ls)) (lenL a6)) <|
 zq778 a0 a1 a2 a3 a4 a5 a6 a7 y3)
 ((f2 a0 a1 a2).bind fun y3 =>
 req (room (lenL ([] : List Ad)) (lenL a5)) <|
 req (room (lenL ([] : List Ls)) (lenL a6)) <|
 zq778 a0 a1 a2 a3 a4 a5 a6 a7 y3))))
 (both
 (both
 ((f2 a0 a1 a2).bind fun y3 =>
 both
 (both
 (req (room (lenL ([] : List Ad)) (lenL a5)) <|
 dup 1 <|
 req (room (lenL ([] : List Ls)) (lenL a6)) <|
 zq778 a0 a1 a2 a3 a4 a5 a6 a7 y3)
 (req (room (lenL ([] : List Ad)) (lenL a5)) <|
 req (room (lenL ([] : List Ls)) (lenL a6)) <|
 zq778 a0 a1 a2 a3 a4 a5 a6 a7 y3))
 (req (room (lenL ([] : List Ad)) (lenL a5)) <|
 req (room (lenL ([] : List Ls)) (lenL a6)) <|
 zq778 a0 a1 a2 a3 a4 a5 a6 a7 y3))
 (both
 (both
 ((f2 a0 a1 a2).bind fun y3 =>
 both
 (req (room (lenL ([] : List Ad)) (lenL a5)) <|
 dup 1 <|
 req (room (lenL ([] : List Ls)) (lenL a6)) <|
 zq778 a0 a1 a2 a3 a4 a5 a6 a7 y3)
 (req (room (lenL ([] : List Ad)) (lenL a5)) <|
 req (room (lenL ([] : List Ls)) (lenL a6)) <|
 zq778 a0 a1 a2 a3 a4 a5 a6 a7 y3))
 ((f2 a0 a1 a2).bind fun y3 =>
 req (room (lenL ([] : List Ad)) (lenL a5)) <|
 req (room (lenL ([] : List Ls)) (lenL a6)) <|
 zq778 a0 a1 a2 a3 a4 a5 a6 a7 y3))
 (dup 1 <|
 (f2 a0 a1 a2).bind fun y3 =>
 req (room (lenL ([] : List Ad)) (lenL a5)) <|
 req (room (lenL ([] : List Ls)) (lenL a6)) <|
 zq778 a0 a1 a2 a3 a4 a5 a6 a7 y3)))
 (both
 ((f2 a0 a1 a2).bind fun y3 =>
 both
 (dup 1 <|
 req (room (lenL ([] : List Ad)) (lenL a5)) <|
 req (room (lenL ([] : List Ls)) (lenL a6)) <|
 zq778 a0 a1 a2 a3 a4 a5 a6 a7 y3)
 (req (room (lenL ([] : List Ad)) (lenL a5)) <|
 req (room (lenL ([] : List Ls)) (lenL a6)) <|
 zq778 a0 a1 a2 a3 a4 a5 a6 a7 y3))
 (both
 (both
 ((f2 a0 a1 a2).bind fun y3 =>
 dup 1 <|
 req (room (lenL ([] : List Ad)) (lenL a5)) <|
 req (room (lenL ([] : List Ls)) (lenL a6)) <|
 zq778 a0 a1 a2 a3 a4 a5 a6 a7 y3)
 ((f2 a0 a1 a2).bind fun y3 =>
 req (room (lenL ([] : List Ad)) (lenL a5)) <|
 req (room (lenL ([] : List Ls)) (lenL a6)) <|
 zq778 a0 a1 a2 a3 a4 a5 a6 a7 y3))
 (dup 1 <|
 (f2 a0 a1 a2).bind fun y3 =>
 req (room (lenL ([] : List Ad)) (lenL a5)) <|
 req (room (lenL ([] : List Ls)) (lenL a6)) <|
 zq778 a0 a1 a2 a3 a4 a5 a6 a7 y3))))))
 (both
 ((f2 a0 a1 a2).bind fun y3 =>
 both
 (both
 (req (room (lenL ([] : List Ad)) (lenL a5)) <|
 both
 (dup 1 <|
 req (room (lenL ([] : List Ls)) (lenL a6)) <|
 zq778 a0 a1 a2 a3 a4 a5 a6 a7 y3)
 (req (room (lenL ([] : List Ls)) (lenL a6)) <|
 zq778 a0 a1 a2 a3 a4 a5 a6 a7 y3))
 (both
 (both
 (req (room (lenL ([] : List Ad)) (lenL a5)) <|
 dup 1 <|
 req (room (lenL ([] : List Ls)) (lenL a6)) <|
 zq778 a0 a1 a2 a3 a4 a5 a6 a7 y3)
 (req (room (lenL ([] : List Ad)) (lenL a5)) <|
 req (room (lenL ([] : List Ls)) (lenL a6)) <|
 zq778 a0 a1 a2 a3 a4 a5 a6 a7 y3))
 (dup 1 <|
 req (room (lenL ([] : List Ad)) (lenL a5)) <|
 req (room (lenL ([] : List Ls)) (lenL a6)) <|
 zq778 a0 a1 a2 a3 a4 a5 a6 a7 y3)))
 (both
 (both
 (both
 (req (room (lenL ([] : List Ad)) (lenL a5)) <|
 dup 1 <|
 req (room (lenL ([] : List Ls)) (lenL a6)) <|
 zq778 a0 a1 a2 a3 a4 a5 a6 a7 y3)
 (req (room (lenL ([] : List Ad)) (lenL a5)) <|
 req (room (lenL ([] : List Ls)) (lenL a6)) <|
 zq778 a0 a1 a2 a3 a4 a5 a6 a7 y3))
 (req (room (lenL ([] : List Ad)) (lenL a5)) <|
 req (room (lenL ([] : List Ls)) (lenL a6)) <|
 zq778 a0 a1 a2 a3 a4 a5 a6 a7 y3))
 (both
 (dup 1 <|
 req (room (lenL ([] : List Ad)) (lenL a5)) <|
 req (room (lenL ([] : List Ls)) (lenL a6)) <|
 zq778 a0 a1 a2 a3 a4 a5 a6 a7 y3)
 (req (room (lenL ([] : List Ad)) (lenL a5)) <|
 req (room (lenL ([] : List Ls)) (lenL a6)) <|
 zq778 a0 a1 a2 a3 a4 a5 a6 a7 y3))))
 (both
 (both
 ((f2 a0 a1 a2).bind fun y3 =>
 both
 (req (room (lenL ([] : List Ad)) (lenL a5)) <|
 both
 (dup 1 <|
 req (room (lenL ([] : List Ls)) (lenL a6)) <|
 zq778 a0 a1 a2 a3 a4 a5 a6 a7 y3)
 (req (room (lenL ([] : List Ls)) (lenL a6)) <|
 zq778 a0 a1 a2 a3 a4 a5 a6 a7 y3))
 (both
 (both
 (req (room (lenL ([] : List Ad)) (lenL a5)) <|
 dup 1 <|
 req (room (lenL ([] : List Ls)) (lenL a6)) <|
 zq778 a0 a1 a2 a3 a4 a5 a6 a7 y3)
 (req (room (lenL ([] : List Ad)) (lenL a5)) <|
 req (room (lenL ([] : List Ls)) (lenL a6)) <|
 zq778 a0 a1 a2 a3 a4 a5 a6 a7 y3))
 (dup 1 <|
 req (room (lenL ([] : List Ad)) (lenL a5)) <|
 req (room (lenL ([] : List Ls)) (lenL a6)) <|
 zq778 a0 a1 a2 a3 a4 a5 a6 a7 y3)))
 (both
 (both
 ((f2 a0 a1 a2).bind fun y3 =>
 both
 (req (room (lenL ([] : List Ad)) (lenL a5)) <|
 dup 1 <|
 req (room (lenL ([] : List Ls)) (lenL a6)) <|
 zq778 a0 a1 a2 a3 a4 a5 a6 a7 y3)
 (req (room (lenL ([] : List Ad)) (lenL a5)) <|
 req (room (lenL ([] : List Ls)) (lenL a6)) <|
 zq778 a0 a1 a2 a3 a4 a5 a6 a7 y3))
 ((f2 a0 a1 a2).bind fun y3 =>
 req (room (lenL ([] : List Ad)) (lenL a5)) <|
 req (room (lenL ([] : List Ls)) (lenL a6)) <|
 zq778 a0 a1 a2 a3 a4 a5 a6 a7 y3))
 (both
 ((f2 a0 a1 a2).bind fun y3 =>
 dup 1 <|
 req (room (lenL ([] : List Ad)) (lenL a5)) <|
 req (room (lenL ([] : List Ls)) (lenL a6)) <|
 zq778 a0 a1 a2 a3 a4 a5 a6 a7 y3)
 ((f2 a0 a1 a2).bind fun y3 =>
 req (room (lenL ([] : List Ad)) (lenL a5)) <|
 req (room (lenL ([] : List Ls)) (lenL a6)) <|
 zq778 a0 a1 a2 a3 a4 a5 a6 a7 y3))))
 (both
 (both
 ((f2 a0 a1 a2).bind fun y3 =>
 both
 (both
 (req (room (lenL ([] : List Ad)) (lenL a5)) <|
 dup 1 <|
 req (room (lenL ([] : List Ls)) (lenL a6)) <|
 zq778 a0 a1 a2 a3 a4 a5 a6 a7 y3)
 (req (room (lenL ([] : List Ad)) (lenL a5)) <|
 req (room (lenL ([] : List Ls)) (lenL a6)) <|
 zq778 a0 a1 a2 a3 a4 a5 a6 a7 y3))
 (req (room (lenL ([] : List Ad)) (lenL a5)) <|
 req (room (lenL ([] : List Ls)) (lenL a6)) <|
 zq778 a0 a1 a2 a3 a4 a5 a6 a7 y3))
 (both
 (both
 ((f2 a0 a1 a2).bind fun y3 =>
 both
 (req (room (lenL ([] : List Ad)) (lenL a5)) <|
 dup 1 <|
 req (room (lenL ([] : List Ls)) (lenL a6)) <|
 zq778 a0 a1 a2 a3 a4 a5 a6 a7 y3)
 (req (room (lenL ([] : List Ad)) (lenL a5)) <|
 req (room (lenL ([] : List Ls)) (lenL a6)) <|
 zq778 a0 a1 a2 a3 a4 a5 a6 a7 y3))
 ((f2 a0 a1 a2).bind fun y3 =>
 req (room (lenL ([] : List Ad)) (lenL a5)) <|
 req (room (lenL ([] : List Ls)) (lenL a6)) <|
 zq778 a0 a1 a2 a3 a4 a5 a6 a7 y3))
 (dup 1 <|
 (f2 a0 a1 a2).bind fun y3 =>
 req (room (lenL ([] : List Ad)) (lenL a5)) <|
 req (room (lenL ([] : List Ls)) (lenL a6)) <|
 zq778 a0 a1 a2 a3 a4 a5 a6 a7 y3)))
 (both
 ((f2 a0 a1 a2).bind fun y3 =>
 both
 (dup 1 <|
 req (room (lenL ([] : List Ad)) (lenL a5)) <|
 req (room (lenL ([] : List Ls)) (lenL a6)) <|
 zq778 a0 a1 a2 a3 a4 a5 a6 a7 y3)
 (req (room (lenL ([] : List Ad)) (lenL a5)) <|
 req (room (lenL ([] : List Ls)) (lenL a6)) <|
 zq778 a0 a1 a2 a3 a4 a5 a6 a7 y3))
 (both
 (both
 ((f2 a0 a1 a2).bind fun y3 =>
 dup 1 <|
 req (room (lenL ([] : List Ad)) (lenL a5)) <|
 req (room (lenL ([] : List Ls)) (lenL a6)) <|
 zq778 a0 a1 a2 a3 a4 a5 a6 a7 y3)
 ((f2 a0 a1 a2).bind fun y3 =>
 req (room (lenL ([] : List Ad)) (lenL a5)) <|
 req (room (lenL ([] : List Ls)) (lenL a6)) <|
 zq778 a0 a1 a2 a3 a4 a5 a6 a7 y3))
 (dup 1 <|
 (f2 a0 a1 a2).bind fun y3 =>
 req (room (lenL ([] : List Ad)) (lenL a5)) <|
 req (room (lenL ([] : List Ls)) (lenL a6)) <|
 zq778 a0 a1 a2 a3 a4 a5 a6 a7 y3)))))))))).bind fun y4 =>
 (f3 (y4.2.2.1,y4.2.1) y4.2.2.2.1 y4.2.2.2.2.2.2.1.1).bind fun y5 =>
 br (decide (y5.1 = 0))
 ((f4 (y4.2.2.1,y4.2.1) y4.2.2.2.1 y4.2.2.2.2.2.2.1.1 y4.2.2.2.2.2.2.2.1.1).bind fun y6 =>
 (g2 (((()),(y4.1.2.1.1,()),(()),(()),(()),(()),(()),(()),(y6.2.2.1,()),(()),(0,()),()),(y4.2.1,y4.2.2.1,y4.2.2.2.1,y4.2.2.2.2.1,y4.2.2.2.2.2.1,(y4.2.2.2.2.2.2.1.1,()),(y4.2.2.2.2.2.2.2.1.1,()),(y4.2.2.2.2.2.2.2.2.1.1,y4.2.2.2.2.2.2.2.2.1.2.1,y4.2.2.2.2.2.2.2.2.1.2.2.1,y4.2.2.2.2.2.2.2.2.1.2.2.2.1,()),(y4.2.2.2.2.2.2.2.2.2.1.1,()),(y4.2.2.2.2.2.2.2.2.2.2.1.1,y4.2.2.2.2.2.2.2.2.2.2.1.2.1,y4.2.2.2.2.2.2.2.2.2.2.1.2.2.1,y4.2.2.2.2.2.2.2.2.2.2.1.2.2.2.1,()),y4.2.2.2.2.2.2.2.2.2.2.2.1,(y6.1.2.2.1,()),y4.2.2.2.2.2.2.2.2.2.2.2.2.1,y4.2.2.2.2.2.2.2.2.2.2.2.2.2.1,y4.2.2.2.2.2.2.2.2.2.2.2.2.2.2.1,y6.1.1.1,y6.1.2.1,y4.2.2.2.2.2.2.2.2.2.2.2.2.2.2.2.1,y6.1.1.2,()))).bind fun y7 =>
 sumC y7 (fun y8 =>
 some (y8.1.1.1,())) (fun y9 =>
 some (true,())))
 ((g2 (((()),(y4.1.2.1.1,()),(()),(()),(()),(()),(()),(()),(y5.1,()),(()),(0,()),()),(y4.2.1,y4.2.2.1,y4.2.2.2.1,y4.2.2.2.2.1,y4.2.2.2.2.2.1,(y4.2.2.2.2.2.2.1.1,()),(y4.2.2.2.2.2.2.2.1.1,()),(y4.2.2.2.2.2.2.2.2.1.1,y4.2.2.2.2.2.2.2.2.1.2.1,y4.2.2.2.2.2.2.2.2.1.2.2.1,y4.2.2.2.2.2.2.2.2.1.2.2.2.1,()),(y4.2.2.2.2.2.2.2.2.2.1.1,()),(y4.2.2.2.2.2.2.2.2.2.2.1.1,y4.2.2.2.2.2.2.2.2.2.2.1.2.1,y4.2.2.2.2.2.2.2.2.2.2.1.2.2.1,y4.2.2.2.2.2.2.2.2.2.2.1.2.2.2.1,()),y4.2.2.2.2.2.2.2.2.2.2.2.1,(0,()),y4.2.2.2.2.2.2.2.2.2.2.2.2.1,y4.2.2.2.2.2.2.2.2.2.2.2.2.2.1,y4.2.2.2.2.2.2.2.2.2.2.2.2.2.2.1,([] : List Pf),([] : List Ls),y4.2.2.2.2.2.2.2.2.2.2.2.2.2.2.2.1,([] : List (List Ad)),()))).bind fun y6 =>
 sumC y6 (fun y7 =>
 some (y7.1.1.1,())) (fun y8 =>
 some (true,()))))
def zq805 (a0 : List Pf × List (List Ad)) (a1 : List Ls) (a2 : Int) (a3 : Oq) (a4 : Pf) (a5 : List Ad) (a6 : List Ls) (a7 : ByteArray) : Option (Bool × Unit):=zq776 zq850 zq829 zq815 zq89 zq119 (loopN zq785 FUEL) a0 a1 a2 a3 a4 a5 a6 a7
end Go.Ma
namespace Go.Ma
open Go
theorem zq481 {x : Ls} (h : chkLs x = 0) : chkA x.ad = 0 ∧ whoOk x.who = true ∧ betw x.upto 0 10499 = true:=by
 unfold chkLs at h
 split at h
 ·rename_i h1;exact absurd h h1
 split at h
 ·cases h
 split at h
 ·cases h
 ·rename_i h1 h2 h3
  exact ⟨zc48.1 h1,by simpa using h2,by simpa using h3⟩
theorem zq479 : ∀ {l : List Ls},zq478 l = 0 → ∀ x ∈ l,chkLs x = 0
 | [],_,x,hx => by cases hx
 | y :: r,h,x,hx => by
  unfold zq478 at h
  split at h
  ·rename_i h1;exact absurd h h1
  ·rename_i h1
   rcases List.mem_cons.1 hx with rfl | hx
   ·exact zc48.1 h1
   ·exact zq479 h x hx
theorem zq369 {l : List Ls} {now : Int} (h : allC l now = 0) : l.length ≤ 20 ∧ (∀ x ∈ l,chkLs x = 0) ∧ ascL l = true ∧ betw now 0 9999 = true:=by
 have h0:=zq367 h
 unfold allC at h
 rw [if_neg (by omega)] at h
 split at h
 ·rename_i h1;exact absurd h h1
 split at h
 ·cases h
 split at h
 ·cases h
 ·rename_i h1 h2 h3
  exact ⟨h0,zq479 (zc48.1 h1),by simpa using h2,by simpa using h3⟩
theorem zq1422 {l : List Ls} (h : lsIn l) (hlen : l.length ≤ 20) (now : Int) : loopN zq39 FUEL (((),(now,()),(0,()),()),(l,())) = some (lsOut l now (zq478 l)):=by
 have:=zq1015 (step:=zq39) (fun i => (((),(now,()),((i : Int),()),()),(l,()))) l.length (fun i => some (lsOut l now (zq478 (l.drop i)))) (fun rec i hi hr => ?_) (fun rec => ?_) FUEL 0 (Nat.zero_le _) (zq651 (by omega))
 ·exact this
 ·obtain ⟨e,he⟩ : ∃ e,l[i]? = some e:=⟨_,zc0 hi⟩
  have hin:=h e (zc5 he)
  have r1 : zq697 (i : Int) (lenL l) = true:=zq699 (by omega) (by unfold lenL;omega)
  simp only [zq39]
  rw [decide_eq_true (show (i : Int) < lenL l by unfold lenL;omega),zq445]
  simp only [r1,zq1400,zq657 he,zq415,zq33 hin.1,zq168 hin.2.1,zq238]
  rw [zq568 he,zq478]
  unfold chkLs
  by_cases hc : chkA e.ad = 0
  ·simp only [hc,decide_true,zc10,zq443,ne_eq,not_true,if_false]
   cases whoOk e.who
   ·rfl
   ·simp only [zc10,zq443,Bool.true_eq_false,if_false]
    cases betw e.upto 0 10499
    ·rfl
    ·simp only [zc10,zq443,Bool.true_eq_false,if_false,not_true]
     rw [show ((i : Int) + 1) = ((i + 1 : Nat) : Int) by omega,zq1398 (zq693 (by omega) (by omega)),hr]
  ·simp only [hc,decide_false,zc19,zq445,ne_eq,not_false_eq_true,if_true]
   rw [zq1025 hc]
 ·simp only [zq39]
  rw [decide_eq_false (show ¬ (l.length : Int) < lenL l by unfold lenL;omega),zq443,zc18 (zc46 _)]
  rfl
theorem zq359 {a b : Ad} (ha : a.In) (hb : b.In) : zq355 a b = decide (ordA a b < 0):=by
 rw [zq361 ha hb]
 exact decide_eq_decide.2 (zq1181 ha hb).1.symm
theorem zq1423 {l : List Ls} (h : lsIn l) (hc : ∀ x ∈ l,chkLs x = 0) (hlen : l.length ≤ 20) (now : Int) : loopN zq36 FUEL (((),(now,()),(1,()),()),(l,())) = some (zq402 l now (ascL l)):=by
 have:=zq1016 (step:=zq36) (fun i => (((),(now,()),((i : Int),()),()),(l,()))) (max 1 l.length) (fun i => some (zq402 l now (ascAt l i))) (fun i => 1 ≤ i) (fun rec i hi h1 hr => ?_) (fun rec h1 => ?_) FUEL 1 (by omega) (zc46 _) (zq651 (by omega))
 ·rw [zq400] at this
  exact this
 ·have hi' : i < l.length:=by omega
  obtain ⟨k,rfl⟩ : ∃ k,i = k + 1:=⟨i - 1,by omega⟩
  obtain ⟨e,he⟩ : ∃ e,l[k]? = some e:=⟨_,zc0 (by omega)⟩
  obtain ⟨e',he'⟩ : ∃ e,l[k + 1]? = some e:=⟨_,zc0 hi'⟩
  have r1 : zq697 ((k + 1 : Nat) : Int) (lenL l) = true:=zq699 (by omega) (by unfold lenL;omega)
  have r2 : zq697 (k : Int) (lenL l) = true:=zq699 (by omega) (by unfold lenL;omega)
  have m1:=zc5 he
  have m2:=zc5 he'
  simp only [zq36]
  rw [decide_eq_true (show ((k + 1 : Nat) : Int) < lenL l by unfold lenL;omega),zq445,show (((k + 1 : Nat) : Int) - 1) = (k : Int) by omega,zq1398 (zq693 (by omega) (by omega))]
  simp only [r1,r2,zq1400,zq657 he,zq657 he',zq415,zq153 (h e m1).1 (h e' m2).1 (zq481 (hc e m1)).1 (zq481 (hc e' m2)).1,zq359 (h e m1).1 (h e' m2).1]
  have ha : ascAt l (k + 1) = (decide (ordA e.ad e'.ad < 0) && ascAt l (k + 1 + 1)):=by
   unfold ascAt
   simp only [Nat.add_sub_cancel,he,he']
   rw [zq568 he',ascF]
  rw [ha]
  by_cases hc : ordA e.ad e'.ad < 0
  ·simp only [hc,decide_true,zc10,zq443,Bool.true_and]
   rw [show (((k + 1 : Nat) : Int) + 1) = ((k + 1 + 1 : Nat) : Int) by omega,zq1398 (zq693 (by omega) (by omega)),hr (by omega)]
  ·simp only [hc,decide_false,zc19,zq445,Bool.false_and]
   rfl
 ·simp only [zq36]
  rw [decide_eq_false (show ¬ ((max 1 l.length : Nat) : Int) < lenL l by unfold lenL;omega),zq443]
  have : ascAt l (max 1 l.length) = true:=by
   unfold ascAt
   rw [zc18 (by omega)]
   cases l[max 1 l.length - 1]? <;> rfl
  rw [this]
  rfl
theorem zq45 {l : List Ls} (h : lsIn l) (now : Int) : zq47 l now = some (allC l now,()):=by
 unfold zq47 allC
 by_cases hlen : l.length > 20
 ·rw [if_pos hlen,decide_eq_true (show lenL l > 20 by unfold lenL;omega),zq445]
 rw [if_neg hlen,decide_eq_false (show ¬ lenL l > 20 by unfold lenL;omega),zq443,zq1422 h (by omega),zq415]
 by_cases hc : zq478 l = 0
 rotate_left
 ·rw [zq1025 hc,if_pos hc];rfl
 rw [if_neg (fun h => h hc),hc]
 simp only [lsOut,if_true,sumC]
 rw [zq1423 h (zq479 hc) (by omega),zq415]
 cases ascL l
 ·rfl
 ·simp only [zq402,if_true,sumC,Bool.true_eq_false,if_false,zq238,zq415]
  cases betw now 0 9999 <;> rfl
def adIn (l : List Ad) : Prop:=∀ a ∈ l,a.In
def backB : Option Ad → Ad → Bool
 | some b,a => decide (ordA b a ≥ 0)
 | none,_ => false
def keptF (p : Pf) : Option Ad → List Ad → Int
 | _,[] => 0
 | prev,a :: r => if chkA a ≠ 0 then chkA a else if holds p a = false then 5 else if backB prev a = true then 4 else keptF p (some a) r
def zq487 (p : Pf) (kp : List Ad) : Int:=if chkP p ≠ 0 then chkP p else if ¬ ((wid p.ad.v6 : Nat) : Int) - p.bits ≤ 4 ∨ kp.length > 6 then 2 else keptF p none kp
def prevA (kp : List Ad) (i : Nat) : Option Ad:=match i with | 0 => none | k + 1 => kp[k]?
def zq1222 (kp : List Ad) (r : Int) : (((Int × Unit) × Unit) × (List Ad × Unit)) ⊕ ((Unit) × (List Ad × Unit)):=if r = 0 then Sum.inr ((),(kp,())) else Sum.inl (((r,()),()),(kp,()))
theorem zq1223 {kp : List Ad} {r : Int} (h : r ≠ 0) : zq1222 kp r = Sum.inl (((r,()),()),(kp,())):=by rw [zq1222,if_neg h]
theorem zq1226 {p : Pf} (cp : chkP p = 0) {kp : List Ad} (h : adIn kp) (hlen : kp.length ≤ 6) : loopN zq930 FUEL (((),(),(lenL kp,()),(0,()),()),(kp,(p.ad.v6,p.ad.hi,p.ad.lo,p.bits,()),())) = some (zq1222 kp (keptF p none kp)):=by
 obtain ⟨b1,b2⟩:=zq485 cp
 have:=zq1015 (step:=zq930) (fun i => (((),(),(lenL kp,()),((i : Int),()),()),(kp,(p.ad.v6,p.ad.hi,p.ad.lo,p.bits,()),()))) kp.length (fun i => some (zq1222 kp (keptF p (prevA kp i) (kp.drop i)))) (fun rec i hi hr => ?_) (fun rec => ?_) FUEL 0 (Nat.zero_le _) (zq651 (by omega))
 ·exact this
 ·obtain ⟨e,he⟩ : ∃ e,kp[i]? = some e:=⟨_,zc0 hi⟩
  simp only [zq930]
  rw [decide_eq_true (show (i : Int) < lenL kp by unfold lenL;omega),zq445,zq1398 (zq699 (by omega) (by unfold lenL;omega)),zq657 he,zq415,zq336,zq415,zq568 he,keptF]
  by_cases hc : chkA e = 0
  rotate_left
  ·simp only [hc,decide_false,zc19,zq445,ne_eq,not_false_eq_true,if_true]
   rw [zq1223 hc]
  simp only [hc,decide_true,zc10,zq443,ne_eq,not_true,if_false]
  rw [zq1260 (p:=p) b1 b2 (h e (zc5 he)),zq415]
  cases holds p e
  ·rfl
  simp only [zc10,zq443,Bool.true_eq_false,if_false]
  have hcd : (br (decide ((i : Int) > 0)) (req (i64ok ((i : Int) - 1)) (req (zq697 ((i : Int) - 1) (lenL kp)) ((geti kp ((i : Int) - 1)).bind fun p4 => (zq349 p4 e).bind fun y5 => some (decide (y5.1 ≥ 0))))) (some false)) = some (backB (prevA kp i) e):=by
   cases i with
   | zero => rfl
   | succ k =>
    obtain ⟨e',he'⟩ : ∃ e,kp[k]? = some e:=⟨_,zc0 (by omega)⟩
    rw [decide_eq_true (by omega),zq445,show (((k + 1 : Nat) : Int) - 1) = (k : Int) by omega,zq1398 (zq693 (by omega) (by omega)),zq1398 (zq699 (by omega) (by unfold lenL;omega)),zq657 he',zq415,zq347,zq415]
    simp only [prevA,he',backB]
  rw [hcd,zq415]
  have hp1 : prevA kp (i + 1) = some e:=he
  cases (backB (prevA kp i) e)
  ·simp only [zq443,zc16,if_false]
   rw [show ((i : Int) + 1) = ((i + 1 : Nat) : Int) by omega,zq1398 (zq693 (by omega) (by omega)),hr,hp1]
  ·rfl
 ·simp only [zq930]
  rw [decide_eq_false (show ¬ (kp.length : Int) < lenL kp by unfold lenL;omega),zq443,zc18 (zc46 _)]
  rfl
theorem zq936 {p : Pf} (hp : p.In) {kp : List Ad} (h : adIn kp) : zq938 p kp = some (zq487 p kp,()):=by
 unfold zq938 zq487
 rw [zq1248 hp,zq415]
 by_cases hc : chkP p = 0
 rotate_left
 ·simp only [hc,decide_false,zc19,zq445,ne_eq,not_false_eq_true,if_true]
 simp only [hc,decide_true,zc10,zq443,ne_eq,not_true,if_false]
 rw [zq927 hc,zq415]
 by_cases hn : ((wid p.ad.v6 : Nat) : Int) - p.bits ≤ 4
 rotate_left
 ·simp only [hn,decide_false,zc19,zq445,zq415,not_false_eq_true,true_or,if_true]
 by_cases hk : kp.length > 6
 ·rw [if_pos (.inr hk)]
  simp only [hn,decide_true,zc10,zq443,zq415]
  rw [decide_eq_true (show lenL kp > 6 by unfold lenL;omega),zq445]
 rw [if_neg (by simp only [not_or];exact ⟨fun h => h hn,hk⟩)]
 simp only [hn,decide_true,zc10,zq443,zq415]
 rw [decide_eq_false (show ¬ lenL kp > 6 by unfold lenL;omega),zq443,zq1226 hc h (by omega),zq415]
 unfold zq1222
 by_cases h0 : keptF p none kp = 0
 ·rw [if_pos h0,h0];rfl
 ·rw [if_neg h0];rfl
theorem zq1437 {p : Pf} (hp : p.In) (cp : chkP p = 0) {kp : List Ad} (h : adIn kp) (hlen : kp.length ≤ 6) : loopN zq54 FUEL (((),(0,()),()),(kp,(p.ad.v6,p.ad.hi,p.ad.lo,p.bits,()),())) = some (zq1222 kp (keptF p none kp)):=by
 have:=zq1016 (step:=zq54) (fun i => (((),((i : Int),()),()),(kp,(p.ad.v6,p.ad.hi,p.ad.lo,p.bits,()),()))) kp.length (fun i => some (zq1222 kp (keptF p (prevA kp i) (kp.drop i)))) (fun i => ∀ b,prevA kp i = some b → chkA b = 0) (fun rec i hi hI hr => ?_) (fun rec _ => ?_) FUEL 0 (Nat.zero_le _) (fun b hb => by cases hb) (zq651 (by omega))
 ·exact this
 ·obtain ⟨e,he⟩ : ∃ e,kp[i]? = some e:=⟨_,zc0 hi⟩
  have hin:=h e (zc5 he)
  have r1 : zq697 (i : Int) (lenL kp) = true:=zq699 (by omega) (by unfold lenL;omega)
  simp only [zq54]
  rw [decide_eq_true (show (i : Int) < lenL kp by unfold lenL;omega),zq445]
  simp only [r1,zq1400,zq657 he,zq415,zq33 hin]
  rw [zq568 he,keptF]
  by_cases hc : chkA e = 0
  rotate_left
  ·simp only [hc,decide_false,zc19,zq445,ne_eq,not_false_eq_true,if_true]
   rw [zq1223 hc]
  simp only [hc,decide_true,zc10,zq443,ne_eq,not_true,if_false]
  rw [zq138 (p:=p) hp cp hin hc,zq415]
  cases holds p e
  ·rfl
  simp only [zc10,zq443,Bool.true_eq_false,if_false]
  have hcd : (br (decide ((i : Int) > 0)) (req (i64ok ((i : Int) - 1)) (req (zq697 ((i : Int) - 1) (lenL kp)) ((geti kp ((i : Int) - 1)).bind fun p5 => (zq155 p5 e).bind fun y7 => some (!y7.1)))) (some false)) = some (backB (prevA kp i) e):=by
   cases i with
   | zero => rfl
   | succ k =>
    obtain ⟨e',he'⟩ : ∃ e,kp[k]? = some e:=⟨_,zc0 (by omega)⟩
    have hin':=h e' (zc5 he')
    rw [decide_eq_true (by omega),zq445,show (((k + 1 : Nat) : Int) - 1) = (k : Int) by omega,zq1398 (zq693 (by omega) (by omega)),zq1398 (zq699 (by omega) (by unfold lenL;omega)),zq657 he',zq415,zq153 hin' hin (hI e' he') hc,zq415]
    simp only [prevA,he',backB,zq359 hin' hin]
    by_cases ho : ordA e' e < 0
    ·have : ¬ ordA e' e ≥ 0:=by omega
     simp [ho,this]
    ·have : ordA e' e ≥ 0:=by omega
     simp [ho,this]
  rw [hcd,zq415]
  have hp1 : prevA kp (i + 1) = some e:=he
  cases (backB (prevA kp i) e)
  ·simp only [zq443,zc16,if_false]
   rw [show ((i : Int) + 1) = ((i + 1 : Nat) : Int) by omega,zq1398 (zq693 (by omega) (by omega)),hr (fun b hb => by rw [hp1] at hb;cases hb;exact hc),hp1]
  ·rfl
 ·simp only [zq54]
  rw [decide_eq_false (show ¬ (kp.length : Int) < lenL kp by unfold lenL;omega),zq443,zc18 (zc46 _)]
  rfl
theorem zq60 {p : Pf} (hp : p.In) {kp : List Ad} (h : adIn kp) : zq62 p kp = some (zq487 p kp,()):=by
 unfold zq62 zq487
 rw [zq69 hp,zq415]
 by_cases hc : chkP p = 0
 rotate_left
 ·simp only [hc,decide_false,zc19,zq445,ne_eq,not_false_eq_true,if_true]
 simp only [hc,decide_true,zc10,zq443,ne_eq,not_true,if_false]
 rw [zq159 hc,zq415]
 by_cases hn : ((wid p.ad.v6 : Nat) : Int) - p.bits ≤ 4
 rotate_left
 ·simp only [hn,decide_false,zc19,zq445,zq415,not_false_eq_true,true_or,if_true]
 by_cases hk : kp.length > 6
 ·rw [if_pos (.inr hk)]
  simp only [hn,decide_true,zc10,zq443,zq415]
  rw [decide_eq_true (show lenL kp > 6 by unfold lenL;omega),zq445]
 rw [if_neg (by simp only [not_or];exact ⟨fun h => h hn,hk⟩)]
 simp only [hn,decide_true,zc10,zq443,zq415]
 rw [decide_eq_false (show ¬ lenL kp > 6 by unfold lenL;omega),zq443,zq1437 hp hc h (by omega),zq415]
 unfold zq1222
 by_cases h0 : keptF p none kp = 0
 ·rw [if_pos h0,h0];rfl
 ·rw [if_neg h0];rfl
end Go.Ma
namespace Go.Ma
open Go
theorem zq695 (o : Option Nat) : decide (idxI o ≥ 0) = o.isSome:=by
 cases o with
 | none => rfl
 | some k =>
  have : idxI (some k) ≥ 0:=by show (k : Int) ≥ 0;omega
  simp [this]
theorem zq1700 : ∀ (l : List Ls) (seen : List ByteArray) (x : Ls),zq1699 seen (l ++ [x]) = (zq1699 seen l || (seen.any (fun s => decide (s = x.who)) || l.any (whoP x.who)))
 | [],seen,x => by
  show (bif seen.any (fun s => decide (s = x.who)) then true else false) = _
  cases seen.any (fun s => decide (s = x.who)) <;> rfl
 | y :: r,seen,x => by
  show (bif seen.any (fun s => decide (s = y.who)) then true else zq1699 (y.who :: seen) (r ++ [x])) = ((bif seen.any (fun s => decide (s = y.who)) then true else zq1699 (y.who :: seen) r) || _)
  rw [zq1700 r (y.who :: seen) x]
  cases seen.any (fun s => decide (s = y.who))
  ·simp only [cond_false,List.any_cons]
   rw [show whoP x.who y = decide (y.who = x.who) from rfl]
   generalize seen.any (fun s => decide (s = x.who)) = b1
   generalize zq1699 (y.who :: seen) r = b2
   generalize r.any (whoP x.who) = b3
   generalize decide (y.who = x.who) = b4
   revert b1 b2 b3 b4
   decide
  ·rfl
def ofF (p : Pf) : List Ls → List Ls → Int
 | _,[] => 0
 | bf,x :: r => if holds p x.ad = false then 5 else if bf.any (whoP x.who) = true then 6 else ofF p (bf ++ [x]) r
def chkOf (p : Pf) (kp : List Ad) (l : List Ls) (now : Int) : Int:=if zq487 p kp ≠ 0 then zq487 p kp else if allC l now ≠ 0 then allC l now else ofF p [] l
def ckOut (kp : List Ad) (l : List Ls) (r : Int) : (((Int × Unit) × Unit) × (List Ad × List Ls × Unit)) ⊕ ((Unit) × (List Ad × List Ls × Unit)):=if r = 0 then Sum.inr ((),(kp,l,())) else Sum.inl (((r,()),()),(kp,l,()))
theorem zq489 {p : Pf} {kp : List Ad} (h : zq487 p kp = 0) : chkP p = 0 ∧ ((wid p.ad.v6 : Nat) : Int) - p.bits ≤ 4 ∧ kp.length ≤ 6:=by
 unfold zq487 at h
 split at h
 ·rename_i h1;exact absurd h h1
 split at h
 ·cases h
 ·rename_i h1 h2
  simp only [not_or,zc48] at h2
  exact ⟨zc48.1 h1,h2.1,by omega⟩
theorem zq1685 {l : List Ls} {i : Nat} {x : Ls} (h : l[i]? = some x) : l.take (i + 1) = l.take i ++ [x]:=by
 have hi:=(zc1.1 h).1
 rw [List.take_succ_eq_append_getElem hi,(zc1.1 h).2]
theorem zq477 {p : Pf} (cp : chkP p = 0) (kp : List Ad) {l : List Ls} (h : lsIn l) (hc : ∀ x ∈ l,chkLs x = 0) (hlen : l.length ≤ 20) : loopN zq880 FUEL (((),(),(),(lenL l,()),(0,()),()),(kp,l,(p.ad.v6,p.ad.hi,p.ad.lo,p.bits,()),())) = some (ckOut kp l (ofF p [] l)):=by
 obtain ⟨b1,b2⟩:=zq485 cp
 have:=zq1016 (step:=zq880) (fun i => (((),(),(),(lenL l,()),((i : Int),()),()),(kp,l,(p.ad.v6,p.ad.hi,p.ad.lo,p.bits,()),()))) l.length (fun i => some (ckOut kp l (ofF p (l.take i) (l.drop i)))) (fun i => zq1699 [] (l.take i) = false) (fun rec i hi hI hr => ?_) (fun rec _ => ?_) FUEL 0 (Nat.zero_le _) rfl (zq651 (by omega))
 ·exact this
 ·obtain ⟨e,he⟩ : ∃ e,l[i]? = some e:=⟨_,zc0 hi⟩
  have hin:=h e (zc5 he)
  simp only [zq880]
  rw [decide_eq_true (show (i : Int) < lenL l by unfold lenL;omega),zq445,zq1398 (zq699 (by omega) (by unfold lenL;omega)),zq657 he,zq415,zq1260 (p:=p) b1 b2 hin.1,zq415,zq568 he,ofF]
  cases hh : holds p e.ad
  ·rfl
  simp only [zc10,zq443,Bool.true_eq_false,if_false]
  have hsub : subL l 0 ((i : Int) + 1) = l.take (i + 1):=by
   have : ((i : Int) + 1).toNat = i + 1:=by omega
   simp [subL,this]
  have htw : zq970 (l.take (i + 1)) = some (zq1699 [] (l.take (i + 1)),()):=by
   unfold zq970
   rw [zq1398]
   simp only [zc4,List.all_eq_true]
   refine ⟨Nat.ble_eq_true_of_le (by simp;omega),fun x hx => ?_⟩
   have:=(zq413.1 (by
    have:=(zq481 (hc x (List.mem_of_mem_take hx))).2.1
    unfold whoOk at this
    rw [zc4] at this
    exact this.2)).2
   unfold lenS at this
   exact Nat.ble_eq_true_of_le (by omega)
  have r5 : (decide ((0 : Int) ≤ (i : Int) + 1) && decide ((i : Int) + 1 ≤ lenL l)) = true:=by
   rw [decide_eq_true (show (0 : Int) ≤ (i : Int) + 1 by omega),decide_eq_true (show (i : Int) + 1 ≤ lenL l by unfold lenL;omega)]
   rfl
  rw [zq1398 (zq693 (by omega) (by omega)),zq1398 r5,hsub,htw,zq415,zq1685 he,zq1700,hI]
  simp only [List.any_nil,Bool.false_or]
  cases hw : (l.take i).any (whoP e.who)
  ·simp only [zq443,zc16,if_false]
   rw [show ((i : Int) + 1) = ((i + 1 : Nat) : Int) by omega,zq1398 (zq693 (by omega) (by omega)),hr (by rw [zq1685 he,zq1700,hI,hw];rfl),zq1685 he]
  ·rfl
 ·simp only [zq880]
  rw [decide_eq_false (show ¬ (l.length : Int) < lenL l by unfold lenL;omega),zq443,zc18 (zc46 _)]
  rfl
theorem zq886 {p : Pf} (hp : p.In) {kp : List Ad} (hk : adIn kp) {l : List Ls} (h : lsIn l) (now : Int) : zq888 p kp l now = some (chkOf p kp l now,()):=by
 unfold zq888 chkOf
 rw [zq936 hp hk,zq415]
 by_cases hc : zq487 p kp = 0
 rotate_left
 ·simp only [hc,decide_false,zc19,zq445,zq443,ne_eq,not_false_eq_true,if_true]
 simp only [hc,decide_true,zq445,ne_eq,not_true,if_false]
 rw [zq877 h,zq415]
 by_cases ha : allC l now = 0
 rotate_left
 ·simp only [ha,decide_false,zc19,zq445,ne_eq,not_false_eq_true,if_true]
 obtain ⟨a1,a2,a3,a4⟩:=zq369 ha
 simp only [ha,decide_true,zc10,zq443,ne_eq,not_true,if_false]
 rw [zq477 (zq489 hc).1 kp h a2 a1,zq415]
 unfold ckOut
 by_cases h0 : ofF p [] l = 0
 ·rw [if_pos h0,h0];rfl
 ·rw [if_neg h0];rfl
end Go.Ma
namespace Go.Ma
open Go
def zq647 (p : Pf) : Nat:=wid p.ad.v6 - p.bits.toNat
def addrI (p : Pf) (i : Nat) : Ad:=ofNum p.ad.v6 (p.ad.num + i)
theorem zq1066 {p : Pf} (hp : p.In) (cp : chkP p = 0) (hn : ((wid p.ad.v6 : Nat) : Int) - p.bits ≤ 4) : zq647 p ≤ 4 ∧ 2 ^ zq647 p ≤ 16 ∧ p.ad.num % 2 ^ zq647 p = 0 ∧ p.ad.num + 2 ^ zq647 p ≤ 2 ^ wid p.ad.v6:=by
 obtain ⟨b1,b2⟩:=zq485 cp
 have h1 : zq647 p ≤ 4:=by unfold zq647;omega
 have h2 : 2 ^ zq647 p ≤ 2 ^ 4:=Nat.pow_le_pow_right (by omega) h1
 have h3 : p.ad.num % 2 ^ zq647 p = 0:=(zq517 _ _).1 ((zq514 hp.1.wf p.bits).1 (zq486 cp))
 have h4:=zq1421 p.ad ⟨hp.1.wf,zq484 cp⟩
 refine ⟨h1,h2,h3,?_⟩
 have hk : zq647 p ≤ wid p.ad.v6:=by unfold zq647;omega
 have h5 : 2 ^ wid p.ad.v6 = 2 ^ zq647 p * 2 ^ (wid p.ad.v6 - zq647 p):=by rw [← Nat.pow_add];congr 1;omega
 obtain ⟨m,hm⟩:=Nat.dvd_of_mod_eq_zero h3
 rw [hm,h5] at h4 ⊢
 have:=Nat.lt_of_mul_lt_mul_left h4
 calc 2 ^ zq647 p * m + 2 ^ zq647 p = 2 ^ zq647 p * (m + 1):=by rw [Nat.mul_add,Nat.mul_one]
  _ ≤ _:=Nat.mul_le_mul_left _ this
theorem zq1736 (v : Bool) : 2 ^ wid v ≤ 340282366920938463463374607431768211456:=by cases v <;> decide
theorem zq1102 {v : Bool} {n : Nat} (h : n < 2 ^ wid v) : (ofNum v n).In:=by
 have:=zq1736 v
 unfold ofNum
 exact ⟨⟨by simp only;omega,by simp only;omega⟩,by simp only;omega,by simp only;omega⟩
theorem zq1101 {v : Bool} {n : Nat} (h : n < 2 ^ wid v) : chkA (ofNum v n) = 0:=by
 unfold chkA ofNum
 cases v
 ·rw [show wid false = 32 from rfl] at h
  rw [if_neg]
  simp only
  omega
 ·simp
theorem zq1168 (x k : Nat) (hx : x < 18446744073709551616) (hk : k ≤ 64) (hm : x % 2 ^ k = 0) : aop .or .u64 (x : Int) ((2 ^ k - 1 : Nat) : Int) = ((x + (2 ^ k - 1) : Nat) : Int):=by
 have hp:=Nat.two_pow_pos k
 have hle : 2 ^ k ≤ 2 ^ 64:=Nat.pow_le_pow_right (by omega) hk
 obtain ⟨m,rfl⟩:=Nat.dvd_of_mod_eq_zero hm
 have hlt : 2 ^ k * m + 2 ^ k ≤ 18446744073709551616:=by
  have h5 : (18446744073709551616 : Nat) = 2 ^ k * 2 ^ (64 - k):=by rw [← Nat.pow_add];rw [show k + (64 - k) = 64 by omega]
  rw [h5] at hx ⊢
  have:=Nat.lt_of_mul_lt_mul_left hx
  calc 2 ^ k * m + 2 ^ k = 2 ^ k * (m + 1):=by rw [Nat.mul_add,Nat.mul_one]
   _ ≤ _:=Nat.mul_le_mul_left _ this
 have e1 : ∀ n : Nat,n < 18446744073709551616 → (BitVec.ofInt 64 (n : Int)).toNat = n:=fun n hn => by
  rw [BitVec.toNat_ofInt]
  have : ((n : Int) % ((2 ^ 64 : Nat) : Int)) = (n : Int):=Int.emod_eq_of_lt (by omega) (by omega)
  rw [this];rfl
 show IntKind.u64.wrap (((BitVec.ofInt 64 ((2 ^ k * m : Nat) : Int) ||| BitVec.ofInt 64 ((2 ^ k - 1 : Nat) : Int)).toNat : Nat) : Int) = _
 rw [BitVec.toNat_or,e1 _ (by omega),e1 _ (by omega),← Nat.two_pow_add_eq_or_of_lt (by omega),zq1743 (by omega) (by omega)]
theorem zq1266 {p : Pf} (hp : p.In) (cp : chkP p = 0) (hn : ((wid p.ad.v6 : Nat) : Int) - p.bits ≤ 4) : zq1268 p = some (addrI p (2 ^ zq647 p - 1),()):=by
 obtain ⟨b1,b2⟩:=zq485 cp
 obtain ⟨n1,n2,n3,n4⟩:=zq1066 hp cp hn
 have hpp:=Nat.two_pow_pos (zq647 p)
 obtain ⟨⟨h1,h2⟩,h3,h4⟩:=hp.1
 unfold zq1268
 rw [zq1296 p.ad p.bits b1 b2,zq415,zq1036]
 show some _ = some _
 have k1 : wid p.ad.v6 - p.bits.toNat - 64 = 0:=by unfold zq647 at n1;omega
 have k2 : min (wid p.ad.v6 - p.bits.toNat) 64 = zq647 p:=by unfold zq647 at n1 ⊢;omega
 rw [k1,k2]
 obtain ⟨hi,hhi⟩:=Int.eq_ofNat_of_zero_le h1
 obtain ⟨lo,hlo⟩:=Int.eq_ofNat_of_zero_le h3
 have hnum : p.ad.num = hi * 18446744073709551616 + lo:=by unfold Ad.num;rw [hhi,hlo];rfl
 have hlo2 : lo % 2 ^ zq647 p = 0:=by
  rw [hnum] at n3
  have h5 : (18446744073709551616 : Nat) = 2 ^ zq647 p * 2 ^ (64 - zq647 p):=by rw [← Nat.pow_add];rw [show zq647 p + (64 - zq647 p) = 64 by omega]
  rw [h5,Nat.mul_left_comm] at n3
  rwa [Nat.mul_add_mod] at n3
 have o1 : aop .or .u64 p.ad.hi ((2 ^ 0 - 1 : Nat) : Int) = p.ad.hi:=by
  rw [hhi,zq1168 hi 0 (by omega) (by omega) (Nat.mod_one _)]
  simp
 have o2 : aop .or .u64 p.ad.lo ((2 ^ zq647 p - 1 : Nat) : Int) = ((lo + (2 ^ zq647 p - 1) : Nat) : Int):=by
  rw [hlo,zq1168 lo (zq647 p) (by omega) (by omega) hlo2]
 simp only [o1,o2]
 have hlt : lo + 2 ^ zq647 p ≤ 18446744073709551616:=by
  have h5 : (18446744073709551616 : Nat) = 2 ^ zq647 p * 2 ^ (64 - zq647 p):=by rw [← Nat.pow_add];rw [show zq647 p + (64 - zq647 p) = 64 by omega]
  obtain ⟨m,rfl⟩:=Nat.dvd_of_mod_eq_zero hlo2
  have hx : 2 ^ zq647 p * m < 2 ^ zq647 p * 2 ^ (64 - zq647 p):=by omega
  have:=Nat.lt_of_mul_lt_mul_left hx
  rw [h5]
  calc 2 ^ zq647 p * m + 2 ^ zq647 p = 2 ^ zq647 p * (m + 1):=by rw [Nat.mul_add,Nat.mul_one]
   _ ≤ _:=Nat.mul_le_mul_left _ this
 unfold addrI ofNum
 rw [hnum,hhi]
 have q1 : (hi * 18446744073709551616 + lo + (2 ^ zq647 p - 1)) / 18446744073709551616 = hi:=by omega
 have q2 : (hi * 18446744073709551616 + lo + (2 ^ zq647 p - 1)) % 18446744073709551616 = lo + (2 ^ zq647 p - 1):=by omega
 rw [q1,q2]
theorem zq330 {v : Bool} {n : Nat} (h : n + 1 < 2 ^ wid v) : zq332 (ofNum v n) = some (ofNum v (n + 1),true,()):=by
 unfold zq332
 simp only [zq441,zq570]
 have hadd : ∀ m : Nat,aop .add .u64 (m : Int) 1 = (((m + 1) % 18446744073709551616 : Nat) : Int):=fun m => by
  simp only [aop,zq1744]
  omega
 have hw:=zq1736 v
 cases v
 ·rw [show wid false = 32 from rfl] at h
  have q1 : (n + 1) / 18446744073709551616 = 0:=by omega
  have q2 : n / 18446744073709551616 = 0:=by omega
  have q3 : (n % 18446744073709551616 + 1) % 18446744073709551616 = n + 1:=by omega
  have q4 : (n + 1) % 18446744073709551616 = n + 1:=by omega
  simp only [ofNum,hadd,zq443,zq415,q1,q2,q3,q4,zq441]
  rw [decide_eq_true (show (((n + 1 : Nat) : Int)) < 4294967296 by omega)]
 ·rw [show wid true = 128 from rfl] at h
  simp only [ofNum,hadd,zq445,zq415]
  by_cases hc : n % 18446744073709551616 + 1 = 18446744073709551616
  ·have q1 : (n + 1) / 18446744073709551616 = n / 18446744073709551616 + 1:=by omega
   have q2 : (n + 1) % 18446744073709551616 = 0:=by omega
   have q3 : (n / 18446744073709551616 + 1) % 18446744073709551616 = n / 18446744073709551616 + 1:=by omega
   rw [hc,Nat.mod_self,decide_eq_true (show ((0 : Nat) : Int) = 0 from rfl),zq445,q1,q2,q3]
   rw [decide_eq_false (show ¬ (((n / 18446744073709551616 + 1 : Nat) : Int)) = 0 by omega)]
   rfl
  ·have q1 : (n + 1) / 18446744073709551616 = n / 18446744073709551616:=by omega
   have q2 : (n + 1) % 18446744073709551616 = n % 18446744073709551616 + 1:=by omega
   have q3 : (n % 18446744073709551616 + 1) % 18446744073709551616 = n % 18446744073709551616 + 1:=by omega
   rw [q3,decide_eq_false (show ¬ (((n % 18446744073709551616 + 1 : Nat) : Int)) = 0 by omega),zq443,q1,q2]
theorem zq1103 {v : Bool} {n m : Nat} (h : n ≠ m) : ofNum v n ≠ ofNum v m:=fun e => h (by have:=congrArg Ad.num e;rwa [zq1094,zq1094] at this)
theorem zq362 (v : Bool) (base c : Nat) (h : base + c ≤ 2 ^ wid v) : ∀ (fuel d : Nat),d < fuel → d < c → allA (ofNum v (base + (c - 1))) fuel (ofNum v (base + (c - 1 - d))) = some ((List.range' (c - 1 - d) (d + 1)).map fun i => ofNum v (base + i))
 | 0,d,h,_ => by omega
 | fuel + 1,d,h1,h2 => by
  rw [allA]
  cases d with
  | zero =>
   rw [decide_eq_true (show ofNum v (base + (c - 1 - 0)) = ofNum v (base + (c - 1)) from rfl),zq445]
   rfl
  | succ d =>
   rw [decide_eq_false (zq1103 (by omega)),zq443,zq330 (by omega),zq415,zq445,show base + (c - 1 - (d + 1)) + 1 = base + (c - 1 - d) by omega,zq362 v base c h fuel d (by omega) (by omega)]
   have hr : List.range' (c - 1 - (d + 1)) (d + 1 + 1) = (c - 1 - (d + 1)) :: List.range' (c - 1 - d) (d + 1):=by
    rw [List.range'_succ]
    congr 2
    omega
   rw [Option.map_some,hr,List.map_cons]
def zq1688 (kp : List Ad) (b : List Ls) (a : Ad) : Bool:=kp.any (fun x => decide (a = x)) || b.any (fun x => decide (x.ad = a))
def ixOut (kp : List Ad) : Option Nat → (((Int × Unit) × Unit) × (List Ad × Unit)) ⊕ ((Unit) × (List Ad × Unit))
 | some k => Sum.inl ((((k : Int),()),()),(kp,()))
 | none => Sum.inr ((),(kp,()))
theorem zq1498 {kp : List Ad} (hlen : kp.length ≤ 1048576) (a : Ad) : zq1497 kp a = some (kp.any (fun x => decide (a = x)),()):=by
 unfold zq1497 zq1508
 have:=zq1015 (step:=zq1501) (fun i => (((),(),(lenL kp,()),((i : Int),()),()),(kp,(a,()),()))) kp.length (fun i => some (ixOut kp ((zq603 (fun x => decide (a = x)) (kp.drop i)).map (· + i)))) (fun rec i hi hr => ?_) (fun rec => ?_) FUEL 0 (Nat.zero_le _) (zq651 (by omega))
 ·rw [List.drop_zero,show (fun x => x + 0) = (id : Nat → Nat) from rfl,Option.map_id] at this
  rw [show ((0 : Nat) : Int) = 0 from rfl] at this
  rw [this,zq415,← zq604]
  simp only [id]
  cases zq603 (fun x => decide (a = x)) kp with
  | none => rfl
  | some k =>
   simp only [ixOut,sumC,zq415]
   rw [decide_eq_true (show (k : Int) ≥ 0 by omega)]
   rfl
 ·obtain ⟨e,he⟩ : ∃ e,kp[i]? = some e:=⟨_,zc0 hi⟩
  simp only [zq1501]
  rw [decide_eq_true (show (i : Int) < lenL kp by unfold lenL;omega),zq445,zq1398 (zq699 (by omega) (by unfold lenL;omega)),zq657 he,zq415,zq605 he,zq588]
  by_cases hc : a = e
  ·simp only [hc,decide_true,zq445,if_true]
   rfl
  ·simp only [hc,decide_false,zq443]
   rw [show ((i : Int) + 1) = ((i + 1 : Nat) : Int) by omega,zq1398 (zq693 (by omega) (by omega)),hr]
   rfl
 ·simp only [zq1501]
  rw [decide_eq_false (show ¬ (kp.length : Int) < lenL kp by unfold lenL;omega),zq443,zc18 (zc46 _)]
  rfl
abbrev DT:=(Bool × Int × Int × Int × Unit) × List Ad × List Ls × (Ad × Unit) × Unit
def tkOut (d : DT) : Option Nat → (((Int × Unit) × Unit) × DT) ⊕ ((Unit) × DT)
 | some k => Sum.inl ((((k : Int),()),()),d)
 | none => Sum.inr ((),d)
theorem zq1689 (p : Pf) {kp : List Ad} (hk : kp.length ≤ 1048576) {b : List Ls} (hb : b.length ≤ 1048576) (a : Ad) : zq283 p kp b a = some (zq1688 kp b a,()):=by
 unfold zq283 zq1688
 rw [zq1498 hk,zq415]
 have:=zq1015 (step:=zq277) (fun i => (((),(),(lenL b,()),((i : Int),()),()),((p.ad.v6,p.ad.hi,p.ad.lo,p.bits,()),kp,b,(a,()),()))) b.length (fun i => some (tkOut ((p.ad.v6,p.ad.hi,p.ad.lo,p.bits,()),kp,b,(a,()),()) ((zq603 (fun x => decide (x.ad = a)) (b.drop i)).map (· + i)))) (fun rec i hi hr => ?_) (fun rec => ?_) FUEL 0 (Nat.zero_le _) (zq651 (by omega))
 ·rw [List.drop_zero,show (fun x => x + 0) = (id : Nat → Nat) from rfl,Option.map_id] at this
  rw [show ((0 : Nat) : Int) = 0 from rfl] at this
  rw [this,zq415,← zq604 b]
  simp only [id]
  cases kp.any (fun x => decide (a = x))
  ·rw [zq443]
   cases zq603 (fun x => decide (x.ad = a)) b with
   | none => rfl
   | some k =>
    simp only [tkOut,sumC,zq415]
    rw [decide_eq_true (show (k : Int) ≥ 0 by omega)]
    rfl
  ·rfl
 ·obtain ⟨e,he⟩ : ∃ e,b[i]? = some e:=⟨_,zc0 hi⟩
  simp only [zq277]
  rw [decide_eq_true (show (i : Int) < lenL b by unfold lenL;omega),zq445,zq1398 (zq699 (by omega) (by unfold lenL;omega)),zq657 he,zq415,zq605 he,zq269,zq415,zq588]
  by_cases hc : e.ad = a
  ·simp only [hc,decide_true,zq445,if_true]
   rfl
  ·simp only [hc,decide_false,zq443]
   rw [show ((i : Int) + 1) = ((i + 1 : Nat) : Int) by omega,zq1398 (zq693 (by omega) (by omega)),hr]
   rfl
 ·simp only [zq277]
  rw [decide_eq_false (show ¬ (b.length : Int) < lenL b by unfold lenL;omega),zq443,zc18 (zc46 _)]
  rfl
def zq646 : Option Ad → Ad × Bool × Unit
 | some a => (a,true,())
 | none => (⟨false,0,0⟩,false,())
def zq648 (p : Pf) (kp : List Ad) (b : List Ls) : Option Ad:=((List.range (2 ^ zq647 p)).map (addrI p)).find? fun a => !zq1688 kp b a
theorem zq610 (p : Pf) {kp : List Ad} (hk : kp.length ≤ 1048576) {b : List Ls} (hb : b.length ≤ 1048576) : ∀ xs : List Ad,zq609 p kp b xs = some (zq646 (xs.find? fun a => !zq1688 kp b a))
 | [] => rfl
 | a :: r => by
  rw [zq609,zq1689 p hk hb,zq415,zq610 p hk hb r,zq415,List.find?_cons]
  cases zq1688 kp b a <;> rfl
theorem zq612 {p : Pf} (hp : p.In) (cp : chkP p = 0) (hn : ((wid p.ad.v6 : Nat) : Int) - p.bits ≤ 4) {kp : List Ad} (hk : kp.length ≤ 1048576) {b : List Ls} (hb : b.length ≤ 1048576) :
  zq264 p kp b = some (zq646 (zq648 p kp b)):=by
 obtain ⟨n1,n2,n3,n4⟩:=zq1066 hp cp hn
 have hpp:=Nat.two_pow_pos (zq647 p)
 unfold zq264 zq648
 rw [zq1266 hp cp hn,zq415]
 have:=zq362 p.ad.v6 p.ad.num (2 ^ zq647 p) n4 64 (2 ^ zq647 p - 1) (by omega) (by omega)
 rw [show 2 ^ zq647 p - 1 - (2 ^ zq647 p - 1) = 0 by omega,Nat.add_zero,zq1104 _ hp.1.wf,show 2 ^ zq647 p - 1 + 1 = 2 ^ zq647 p by omega,← List.range_eq_range'] at this
 show (allA (ofNum p.ad.v6 (p.ad.num + (2 ^ zq647 p - 1))) 64 p.ad).bind _ = _
 rw [this,zq415,zq610 p hk hb]
 rfl
end Go.Ma
namespace Go.Ma
open Go
theorem zq401 : ∀ {r : List Ls} {c : Ad},c.In → lsIn r → ascF c r = true → ∀ z ∈ r,rank c < rank z.ad
 | [],_,_,_,_,z,hz => by cases hz
 | y :: r,c,hc,hr,h,z,hz => by
  unfold ascF at h
  simp only [zc4,decide_eq_true_eq] at h
  have hy:=hr y (by simp)
  have h1:=(zq1181 hc hy.1).1.1 h.1
  rcases List.mem_cons.1 hz with rfl | hz
  ·exact h1
  ·have:=zq401 hy.1 (fun x hx => hr x (by simp [hx])) h.2 z hz
   omega
theorem zq406 : ∀ {l : List Ls},lsIn l → (ascL l = true ↔ l.Pairwise fun x y => rank x.ad < rank y.ad)
 | [],_ => by simp [ascL]
 | x :: r,h => by
  have hx:=h x (by simp)
  have hr : lsIn r:=fun y hy => h y (by simp [hy])
  rw [zc44,← zq406 hr]
  constructor
  ·intro h1
   have h1 : ascF x.ad r = true:=h1
   refine ⟨zq401 hx.1 hr h1,?_⟩
   cases r with
   | nil => rfl
   | cons y r =>
    unfold ascF at h1
    simp only [zc4] at h1
    exact h1.2
  ·rintro ⟨h1,h2⟩
   show ascF x.ad r = true
   cases r with
   | nil => rfl
   | cons y r =>
    unfold ascF
    simp only [zc4,decide_eq_true_eq]
    exact ⟨(zq1181 hx.1 (hr y (by simp)).1).1.2 (h1 y (by simp)),h2⟩
theorem zq1004 {l : List Ls} (h : lsIn l) (now : Int) : lsIn (live l now):=fun x hx => h x (List.mem_filter.1 hx).1
theorem zq1003 {l : List Ls} (h : lsIn l) (ha : ascL l = true) (now : Int) : ascL (live l now) = true:=(zq406 (zq1004 h now)).2 (((zq406 h).1 ha).filter _)
def posF (a : Ad) (b : List Ls) : Nat:=(b.takeWhile fun y => decide (ordA y.ad a < 0)).length
theorem zq1235 (a : Ad) (b : List Ls) : posF a b ≤ b.length:=(List.takeWhile_sublist _).length_le
theorem zq1238 {a : Ad} (ha : a.In) : ∀ {b : List Ls},lsIn b → ascL b = true → ∀ {h : Nat} {x : Ls},b[h]? = some x → (ordA x.ad a < 0 ↔ h < posF a b)
 | [],_,_,_,_,hx => by simp at hx
 | y :: r,hb,hs,h,x,hx => by
  have hy:=hb y (by simp)
  have hr : lsIn r:=fun z hz => hb z (by simp [hz])
  have hrs : ascL r = true:=(zq406 hr).2 (zc44.1 ((zq406 hb).1 hs)).2
  have hyr:=(zc44.1 ((zq406 hb).1 hs)).1
  unfold posF
  rw [List.takeWhile_cons]
  by_cases ho : ordA y.ad a < 0
  ·simp only [ho,decide_true,if_true,List.length_cons]
   cases h with
   | zero =>
    simp only [zc13,zc2] at hx
    subst hx
    simp [ho]
   | succ h =>
    have:=zq1238 ha hr hrs (h:=h) (x:=x) (by simpa using hx)
    unfold posF at this
    omega
  ·simp only [ho,decide_false,zc16,if_false,List.length_nil]
   cases h with
   | zero =>
    simp only [zc13,zc2] at hx
    subst hx
    simp [ho]
   | succ h =>
    have hx' : r[h]? = some x:=by simpa using hx
    have hm:=zc5 hx'
    have h1:=hyr x hm
    have h2:=(zq1181 hy.1 ha).1
    have h3:=(zq1181 (hr x hm).1 ha).1
    constructor
    ·intro h4
     have:=h3.1 h4
     have : ¬ rank y.ad < rank a:=fun h => ho (h2.2 h)
     omega
    ·intro h4;omega
theorem zq682 (i j : Nat) (h : i + j < 9223372036854775808) : convI .i64 (aop .shr .u64 (convI .u64 ((i : Int) + (j : Int))) 1) = (((i + j) / 2 : Nat) : Int):=by
 unfold convI
 rw [zq1743 (by omega) (by omega)]
 have e1 : aop .shr .u64 ((i : Int) + (j : Int)) 1 = (((i + j) / 2 : Nat) : Int):=by
  simp only [aop,IntKind.bits]
  rw [show ((2 : Int) ^ (min ((1 : Int).toNat) 64)) = 2 from rfl,Int.fdiv_eq_ediv_of_nonneg _ (by omega)]
  omega
 rw [e1]
 exact wrap_i64 (by omega) (by omega)
abbrev DR:=List Ad × List Ls × (Bool × Int × Int × Int × Unit) × (ByteArray × Unit) × List Ls × (Ad × Unit) × List Ls × (Bool × Int × Int × Int × Unit) × (Ad × Unit) × (Ls × Unit) × (Ls × Unit) × Unit
theorem zq446 {kp : List Ad} {l b g : List Ls} (q q' : Bool × Int × Int × Int × Unit) (who : ByteArray) (ga a0 : Ad) (x x2 : Ls) (hx : x2.ad.In) (hb : lsIn b) (hs : ascL b = true) (hlen : b.length ≤ 1048576) (n : Int) :
  ∀ (N i j : Nat),j - i < N → i ≤ posF x2.ad b → posF x2.ad b ≤ j → j ≤ b.length →
   loopN zq955 N (((),(),(),(n,()),((i : Int),()),((j : Int),()),()),((kp,l,q,(who,()),g,(ga,()),b,q',(a0,()),(x,()),(x2,()),()) : DR)) =
    some (((),(),(),(n,()),(((posF x2.ad b : Nat) : Int),()),()),(kp,l,q,(who,()),g,(ga,()),b,q',(a0,()),(x,()),(x2,()),()))
 | 0,_,_,h,_,_,_ => by omega
 | N + 1,i,j,hN,h1,h2,h3 => by
  rw [zq1010]
  simp only [zq955]
  obtain ⟨q1,q2,q3,q4,_⟩:=q
  obtain ⟨r1,r2,r3,r4,_⟩:=q'
  by_cases hij : i < j
  ·have hh : (i + j) / 2 < b.length:=by omega
   obtain ⟨e,he⟩ : ∃ e,b[(i + j) / 2]? = some e:=⟨_,zc0 hh⟩
   have hp:=zq1238 hx hb hs he
   rw [decide_eq_true (show (i : Int) < (j : Int) by omega),zq445,zq1398 (zq693 (by omega) (by omega))]
   simp only [zq682 i j (by omega)]
   rw [zq1398 (zq699 (by omega) (by unfold lenL;omega)),zq657 he,zq415,zq948,zq347,zq415,zq415]
   by_cases ho : ordA e.ad x2.ad < 0
   ·have:=hp.1 ho
    simp only [ho,decide_true,zq445]
    rw [show (((i + j) / 2 : Nat) : Int) + 1 = (((i + j) / 2 + 1 : Nat) : Int) by omega,zq1398 (zq693 (by omega) (by omega))]
    exact zq446 _ _ who ga a0 x x2 hx hb hs hlen n N ((i + j) / 2 + 1) j (by omega) (by omega) h2 h3
   ·have : ¬ (i + j) / 2 < posF x2.ad b:=fun h => ho (hp.2 h)
    simp only [ho,decide_false,zq443]
    exact zq446 _ _ who ga a0 x x2 hx hb hs hlen n N i ((i + j) / 2) (by omega) h1 (by omega) (by omega)
  ·have : posF x2.ad b = i:=by omega
   rw [decide_eq_false (show ¬ (i : Int) < (j : Int) by omega),zq443,this]
theorem zq447 : zq954 = zq955:=rfl
abbrev DW:=List Ad × List Ls × (Bool × Int × Int × Int × Unit) × (ByteArray × Unit) × List Ls × (Ad × Unit) × List Ls × (Bool × Int × Int × Int × Unit) × Unit
def rwOut (d : DW) : Option Nat → (((Int × Unit) × Unit) × DW) ⊕ ((Unit) × DW)
 | some k => Sum.inl ((((k : Int),()),()),d)
 | none => Sum.inr ((),d)
theorem zq1448 (p : Pf) (kp : List Ad) (l : List Ls) {b : List Ls} (hlen : b.length ≤ 1048576) (who : ByteArray) :
  loopN zq961 FUEL (((),(),(lenL b,()),(0,()),()),(kp,l,(p.ad.v6,p.ad.hi,p.ad.lo,p.bits,()),(who,()),([] : List Ls),((⟨false,0,0⟩ : Ad),()),b,(p.ad.v6,p.ad.hi,p.ad.lo,p.bits,()),())) =
   some (rwOut (kp,l,(p.ad.v6,p.ad.hi,p.ad.lo,p.bits,()),(who,()),([] : List Ls),((⟨false,0,0⟩ : Ad),()),b,(p.ad.v6,p.ad.hi,p.ad.lo,p.bits,()),()) (zq603 (whoP who) b)):=by
 have:=zq1015 (step:=zq961) (fun i => (((),(),(lenL b,()),((i : Int),()),()),((kp,l,(p.ad.v6,p.ad.hi,p.ad.lo,p.bits,()),(who,()),([] : List Ls),((⟨false,0,0⟩ : Ad),()),b,(p.ad.v6,p.ad.hi,p.ad.lo,p.bits,()),()) : DW))) b.length
  (fun i => some (rwOut (kp,l,(p.ad.v6,p.ad.hi,p.ad.lo,p.bits,()),(who,()),([] : List Ls),((⟨false,0,0⟩ : Ad),()),b,(p.ad.v6,p.ad.hi,p.ad.lo,p.bits,()),()) ((zq603 (whoP who) (b.drop i)).map (· + i)))) (fun rec i hi hr => ?_) (fun rec => ?_) FUEL 0 (Nat.zero_le _) (zq651 (by omega))
 ·rw [List.drop_zero,show (fun x => x + 0) = (id : Nat → Nat) from rfl,Option.map_id] at this
  exact this
 ·obtain ⟨e,he⟩ : ∃ e,b[i]? = some e:=⟨_,zc0 hi⟩
  simp only [zq961]
  rw [decide_eq_true (show (i : Int) < lenL b by unfold lenL;omega),zq445,zq1398 (zq699 (by omega) (by unfold lenL;omega)),zq657 he,zq415,zq943,zq415,zq605 he,zq1673]
  unfold whoP
  by_cases hc : e.who = who
  ·simp only [hc,decide_true,zq445,if_true]
   rfl
  ·simp only [hc,decide_false,zq443]
   rw [show ((i : Int) + 1) = ((i + 1 : Nat) : Int) by omega,zq1398 (zq693 (by omega) (by omega)),hr]
   rfl
 ·simp only [zq961]
  rw [decide_eq_false (show ¬ (b.length : Int) < lenL b by unfold lenL;omega),zq443,zc18 (zc46 _)]
  rfl
def insAt (b : List Ls) (x : Ls) : List Ls:=b.take (posF x.ad b) ++ x :: b.drop (posF x.ad b)
def zq755 (b : List Ls) (k : Nat) (u : Int) : List Ls × Ad × Bool × Unit:=match b[k]? with | some e => (b.set k ⟨e.ad,e.who,u⟩,e.ad,true,()) | none => ([],⟨false,0,0⟩,false,())
def zq1305 (b : List Ls) (who : ByteArray) (u : Int) : Option Ad → List Ls × Ad × Bool × Unit
 | some a => (insAt b ⟨a,who,u⟩,a,true,())
 | none => ([],⟨false,0,0⟩,false,())
def rawOf (p : Pf) (kp : List Ad) (b : List Ls) (who : ByteArray) (u : Int) : List Ls × Ad × Bool × Unit :=
 match zq603 (whoP who) b with
 | some k => zq755 b k u
 | none => zq1305 b who u (zq648 p kp b)
theorem zq326 {p : Pf} (n4 : p.ad.num + 2 ^ zq647 p ≤ 2 ^ wid p.ad.v6) {i : Nat} (h : i < 2 ^ zq647 p) : (addrI p i).In ∧ chkA (addrI p i) = 0:=⟨zq1102 (by omega),zq1101 (by omega)⟩
theorem zq649 {p : Pf} {kp : List Ad} {b : List Ls} {a : Ad} (h : zq648 p kp b = some a) : (∃ i,i < 2 ^ zq647 p ∧ a = addrI p i) ∧ zq1688 kp b a = false:=by
 unfold zq648 at h
 have h1:=List.mem_of_find?_eq_some h
 have h2:=List.find?_some h
 obtain ⟨i,hi,rfl⟩:=List.mem_map.1 h1
 exact ⟨⟨i,List.mem_range.1 hi,rfl⟩,by simpa using h2⟩
theorem zq952 {p : Pf} (hp : p.In) {kp : List Ad} {l : List Ls} (h : lsIn l) {now ttl : Int} (hc : zq487 p kp = 0) (ha : allC l now = 0) (hu : -9223372036854775808 ≤ now + ttl) (hu' : now + ttl < 9223372036854775808) (who : ByteArray) :
  zq967 p kp l who now ttl = some (rawOf p kp (live l now) who (now + ttl)):=by
 obtain ⟨a1,a2,a3,a4⟩:=zq369 ha
 obtain ⟨c1,c2,c3⟩:=zq489 hc
 have hll:=zq1005 l now
 unfold zq967
 rw [zq909 (by omega) now,zq415]
 have hbs:=zq1003 h a3 now
 have hbi:=zq1004 h now
 generalize live l now = b at hll hbs hbi ⊢
 obtain ⟨n1,n2,n3,n4⟩:=zq1066 hp c1 c2
 rw [zq1448 p kp l (show b.length ≤ 1048576 by omega) who,zq415]
 unfold rawOf
 have hin : ∀ a,zq648 p kp b = some a → a.In:=fun a hf => by
  obtain ⟨⟨i,hi,rfl⟩,_⟩:=zq649 hf
  exact (zq326 n4 hi).1
 have hf:=zq612 hp c1 c2 (kp:=kp) (by omega) (b:=b) (by omega)
 have hfu : b.length - 0 < FUEL:=by have : FUEL = 18446744073709551616:=rfl;omega
 have hroom : ∀ a : Ad,(decide ((0 : Int) ≤ ((posF a b : Nat) : Int)) && decide (((posF a b : Nat) : Int) ≤ lenL b) && room (lenL b) 1) = true:=fun a => by
  have:=zq1235 a b
  rw [decide_eq_true (show (0 : Int) ≤ ((posF a b : Nat) : Int) by omega),decide_eq_true (show ((posF a b : Nat) : Int) ≤ lenL b by unfold lenL;omega),zq1424 (zq993 _) (by omega) (by unfold lenL;omega)]
  rfl
 have hpick : ∀ (a : Ad) (x : Ls),x.ad = a → (br (decide (((posF a b : Nat) : Int) < lenL b)) (req (zq697 ((posF a b : Nat) : Int) (lenL b)) ((geti b ((posF a b : Nat) : Int)).bind fun p6 => (zq948 p6 x).bind fun y7 => some (((posF a b : Nat) : Int),decide (y7.1 = 0),()))) (some (((posF a b : Nat) : Int),false,()))) =
   some (((posF a b : Nat) : Int),(br (decide (((posF a b : Nat) : Int) < lenL b)) ((geti b ((posF a b : Nat) : Int)).bind fun p6 => (zq948 p6 x).bind fun y7 => some (decide (y7.1 = 0))) (some false)).getD false,()):=fun a x hx => by
  by_cases hlt : posF a b < b.length
  ·obtain ⟨e,he⟩ : ∃ e,b[posF a b]? = some e:=⟨_,zc0 hlt⟩
   rw [decide_eq_true (show ((posF a b : Nat) : Int) < lenL b by unfold lenL;omega),zq445,zq1398 (zq699 (by omega) (by unfold lenL;omega)),zq657 he,zq415,zq948,zq347,zq415,zq415,zq445,zq415,zq948,zq347,zq415,zq415]
   rfl
  ·rw [decide_eq_false (show ¬ ((posF a b : Nat) : Int) < lenL b by unfold lenL;omega),zq443,zq443]
   rfl
 cases hfw : zq603 (whoP who) b with
 | some k =>
  have hk:=zq606 hfw
  obtain ⟨e,he⟩ : ∃ e,b[k]? = some e:=⟨_,zc0 hk⟩
  have r1 : zq697 (k : Int) (lenL b) = true:=zq699 (by omega) (by unfold lenL;omega)
  have r2 : zq697 (k : Int) (lenL (seti b (k : Int) (⟨e.ad,e.who,now + ttl⟩ : Ls))) = true:=zq699 (by omega) (by unfold lenL seti;simp only [List.length_set];omega)
  have hg : geti (seti b (k : Int) (⟨e.ad,e.who,now + ttl⟩ : Ls)) (k : Int) = some ⟨e.ad,e.who,now + ttl⟩:=by
   rw [zq658]
   simp [seti,hk]
  simp only [rwOut,sumC]
  rw [decide_eq_true (show (k : Int) ≥ 0 by omega),zq445,zq1398 (zq693 hu hu')]
  simp only [r1,zq1400,zq657 he,zq415,r2,hg]
  unfold zq755
  rw [he]
  simp [seti]
 | none =>
  simp only [rwOut,sumC]
  show (zq264 p kp b).bind _ = _
  rw [hf,zq415]
  cases hfo : zq648 p kp b with
  | none => rfl
  | some a =>
   simp only [zq646,zc10,zq443]
   rw [zq1398 (zq693 hu hu')]
   have hl:=zq446 (kp:=kp) (l:=l) (g:=([] : List Ls)) (p.ad.v6,p.ad.hi,p.ad.lo,p.bits,()) (p.ad.v6,p.ad.hi,p.ad.lo,p.bits,()) who ⟨false,0,0⟩ a ⟨a,who,now + ttl⟩ ⟨a,who,now + ttl⟩ (hin a hfo) hbi hbs (by omega) (lenL b) FUEL 0 b.length hfu (Nat.zero_le _) (zq1235 _ _) (zc46 _)
   rw [show ((0 : Nat) : Int) = 0 from rfl,show ((b.length : Nat) : Int) = lenL b from rfl] at hl
   rw [zq447,hl,zq415,hpick a ⟨a,who,now + ttl⟩ rfl,zq415]
   simp only [hroom a,zq1400,zq570,zq441]
   unfold zq1305 insAt insL
   simp
def zq674 (p : Pf) (kp : List Ad) (l : List Ls) (who : ByteArray) (now ttl : Int) : List Ls × Ad × Int × Unit :=
 if chkOf p kp l now ≠ 0 then ([],⟨false,0,0⟩,chkOf p kp l now,()) else if whoOk who = false then ([],⟨false,0,0⟩,1,()) else if betw ttl 1 500 = false then ([],⟨false,0,0⟩,3,())
 else if (rawOf p kp (live l now) who (now + ttl)).2.2.1 = false then ([],⟨false,0,0⟩,8,()) else ((rawOf p kp (live l now) who (now + ttl)).1,(rawOf p kp (live l now) who (now + ttl)).2.1,0,())
theorem zq483 {p : Pf} {kp : List Ad} {l : List Ls} {now : Int} (h : chkOf p kp l now = 0) : zq487 p kp = 0 ∧ allC l now = 0 ∧ ofF p [] l = 0:=by
 unfold chkOf at h
 split at h
 ·rename_i h1;exact absurd h h1
 split at h
 ·rename_i h1;exact absurd h h1
 ·rename_i h1 h2
  exact ⟨zc48.1 h1,zc48.1 h2,h⟩
theorem zq898 {p : Pf} (hp : p.In) {kp : List Ad} (hk : adIn kp) {l : List Ls} (h : lsIn l) {who : ByteArray} (hw : strIn who) (now ttl : Int) : zq900 p kp l who now ttl = some (zq674 p kp l who now ttl):=by
 unfold zq900 zq674
 rw [zq886 hp hk h,zq415]
 by_cases hc : chkOf p kp l now = 0
 rotate_left
 ·simp only [hc,decide_false,zc19,zq445,ne_eq,not_false_eq_true,if_true]
 obtain ⟨c1,c2,c3⟩:=zq483 hc
 simp only [hc,decide_true,zc10,zq443,ne_eq,not_true,if_false]
 rw [zq977 hw,zq415]
 cases whoOk who
 ·rfl
 simp only [zc10,zq443,Bool.true_eq_false,if_false]
 rw [zq989,zq415]
 cases ht : betw ttl 1 500
 ·rfl
 obtain ⟨t1,t2⟩:=zq413.1 ht
 obtain ⟨u1,u2⟩:=zq413.1 (zq369 c2).2.2.2
 simp only [zc10,zq443,Bool.true_eq_false,if_false]
 rw [zq952 hp h c1 c2 (by omega) (by omega),zq415]
 cases (rawOf p kp (live l now) who (now + ttl)).2.2.1
 ·rfl
 ·rfl
end Go.Ma
namespace Go.Ma
open Go
def lsbL (n w : Nat) : List UInt8:=(List.range w).map (bitV n)
theorem zq1028 (n w : Nat) : (zq424 n (w - 1) w).reverse = lsbL n w:=by
 apply List.ext_getElem?
 intro i
 by_cases hi : i < w
 ·rw [List.getElem?_reverse (by rw [zq427];exact hi),zq427,zq426,if_pos (by omega)]
  simp only [lsbL,List.getElem?_map,List.getElem?_range hi,Option.map_some]
  rw [show w - 1 - (w - 1 - i) = i by omega]
 ·rw [zc22 (by simp [zq427];omega),zc22 (by simp [lsbL];omega)]
theorem zq1027 (n w : Nat) : lsbL n (w + 1) = bitV n 0 :: lsbL (n / 2) w:=by
 unfold lsbL
 rw [List.range_succ_eq_map,List.map_cons,List.map_map]
 congr 1
 apply List.map_congr_left
 intro i _
 simp only [Function.comp]
 exact zq416 (by rw [Nat.testBit_succ])
theorem zq418 (n : Nat) : bitV n 0 = if n % 2 = 1 then 49 else 48:=by
 unfold bitV
 rw [Nat.testBit_zero]
 by_cases h : n % 2 = 1 <;> simp [h]
theorem zq704 : ∀ (w n : Nat),n < 2 ^ w → incR (lsbL n w) = if n + 1 < 2 ^ w then some (lsbL (n + 1) w) else none
 | 0,n,h => by
  have : n = 0:=by simpa using h
  subst this
  rfl
 | w + 1,n,h => by
  have hp : 2 ^ (w + 1) = 2 * 2 ^ w:=by rw [Nat.pow_succ,Nat.mul_comm]
  rw [zq1027,zq1027,incR,zq418,zq418]
  by_cases hodd : n % 2 = 1
  ·have h1 : (n + 1) / 2 = n / 2 + 1:=by omega
   have h2 : ¬ (n + 1) % 2 = 1:=by omega
   rw [if_pos hodd,if_neg h2,if_neg (by decide),zq704 w (n / 2) (by omega),h1]
   by_cases h3 : n / 2 + 1 < 2 ^ w
   ·rw [if_pos h3,if_pos (by omega)];rfl
   ·rw [if_neg h3,if_neg (by omega)];rfl
  ·have h1 : (n + 1) / 2 = n / 2:=by omega
   have h2 : (n + 1) % 2 = 1:=by omega
   rw [if_neg hodd,if_pos h2,if_pos rfl,if_pos (by omega),h1]
theorem zq555 (m j : Nat) : m / 2 ^ j = 2 * (m / 2 ^ (j + 1)) + (if m.testBit j then 1 else 0):=by
 have h1 : m / 2 ^ (j + 1) = m / 2 ^ j / 2:=by rw [Nat.pow_succ,Nat.div_div_eq_div_mul]
 rw [h1,Nat.testBit_eq_decide_div_mod_eq]
 by_cases h : m / 2 ^ j % 2 = 1 <;> simp only [h,decide_true,decide_false,if_true,if_false,zc16] <;> omega
theorem zq421 (n i : Nat) : convI .u64 (aop .sub .u8 ((bitV n i).toNat : Int) 48) = ((if n.testBit i then 1 else 0 : Nat) : Int):=by
 unfold bitV
 cases n.testBit i <;> decide
theorem zq521 (x b r : Nat) (h : r = 2 * x + b) (hr : r < 18446744073709551616) : aop .add .u64 (aop .mul .u64 2 (x : Int)) (b : Int) = (r : Int):=by
 simp only [aop,zq1744]
 omega
def accN (v : Bool) (n k : Nat) : Ad:=⟨v,((n / 2 ^ (max k 64) : Nat) : Int),((n % 18446744073709551616 / 2 ^ k : Nat) : Int)⟩
theorem zq310 {v : Bool} {n k : Nat} (hn : n < 2 ^ 128) : accN v n k = if k + 1 > 64 then (⟨v,aop .add .u64 (aop .mul .u64 2 (accN v n (k + 1)).hi) ((if n.testBit k then 1 else 0 : Nat) : Int),(accN v n (k + 1)).lo⟩ : Ad)
  else ⟨v,(accN v n (k + 1)).hi,aop .add .u64 (aop .mul .u64 2 (accN v n (k + 1)).lo) ((if n.testBit k then 1 else 0 : Nat) : Int)⟩:=by
 by_cases hk : k + 1 > 64
 ·rw [if_pos hk]
  unfold accN
  simp only
  have e1 : max k 64 = k:=by omega
  have e2 : max (k + 1) 64 = k + 1:=by omega
  rw [e1,e2]
  have hlt : n / 2 ^ k < 18446744073709551616:=by
   rw [Nat.div_lt_iff_lt_mul (Nat.two_pow_pos k)]
   have : 2 ^ 64 ≤ 2 ^ k:=Nat.pow_le_pow_right (by omega) (by omega)
   calc n < 2 ^ 128:=hn
    _ = 18446744073709551616 * 2 ^ 64:=by decide
    _ ≤ _:=Nat.mul_le_mul_left _ this
  rw [zq521 _ _ _ (zq555 n k) hlt]
  have z : ∀ q,64 ≤ q → n % 18446744073709551616 / 2 ^ q = 0:=fun q hq => by
   apply Nat.div_eq_of_lt
   have : 2 ^ 64 ≤ 2 ^ q:=Nat.pow_le_pow_right (by omega) hq
   omega
  rw [z k (by omega),z (k + 1) (by omega)]
 ·rw [if_neg hk]
  unfold accN
  simp only
  have e1 : max k 64 = 64:=by omega
  have e2 : max (k + 1) 64 = 64:=by omega
  rw [e1,e2]
  have ht : n.testBit k = (n % 18446744073709551616).testBit k:=by
   rw [show (18446744073709551616 : Nat) = 2 ^ 64 from rfl,Nat.testBit_mod_two_pow]
   simp
   omega
  have hlt : n % 18446744073709551616 / 2 ^ k < 18446744073709551616:=Nat.lt_of_le_of_lt (Nat.div_le_self _ _) (Nat.mod_lt _ (by omega))
  rw [ht,zq521 _ _ _ (zq555 (n % 18446744073709551616) k) hlt]
theorem zq15 {v : Bool} {n : Nat} (h : n < 2 ^ wid v) : zq17 (zq1096 (zq424 n (wid v - 1) (wid v))) = some (ofNum v n,()):=by
 have hw:=zq1736 v
 have hn : n < 2 ^ 128:=Nat.lt_of_lt_of_le h (Nat.le_trans hw (by decide))
 have hlen : (zq1096 (zq424 n (wid v - 1) (wid v))).size = wid v:=by rw [zq1098,zq427]
 have hwl:=zq1735 v
 unfold zq17
 have hv : decide (lenS (zq1096 (zq424 n (wid v - 1) (wid v))) = 128) = v:=by
  unfold lenS
  rw [hlen]
  cases v <;> decide
 rw [hv]
 generalize hs : zq1096 (zq424 n (wid v - 1) (wid v)) = s at hlen ⊢
 have:=zq1015 (step:=zq9) (fun i => (((s,()),(),(),((i : Int),()),()),(((⟨false,0,0⟩ : Ad),()),(accN v n (wid v - i),()),()))) (wid v) (fun i => some (((),(),()),(((⟨false,0,0⟩ : Ad),()),(ofNum v n,()),()))) (fun rec i hi hr => ?_) (fun rec => ?_) FUEL 0 (Nat.zero_le _) (zq651 (by omega))
 ·have h0 : accN v n (wid v - 0) = ⟨v,0,0⟩:=by
   unfold accN
   have q1 : n / 2 ^ (max (wid v - 0) 64) = 0:=by
    apply Nat.div_eq_of_lt
    exact Nat.lt_of_lt_of_le h (Nat.pow_le_pow_right (by omega) (by omega))
   have q2 : n % 18446744073709551616 / 2 ^ (wid v - 0) = 0:=by
    apply Nat.div_eq_of_lt
    exact Nat.lt_of_le_of_lt (Nat.mod_le _ _) h
   rw [q1,q2]
   rfl
  rw [h0] at this
  rw [show ((0 : Nat) : Int) = 0 from rfl] at this
  rw [this,zq415]
 ·have hb : s.data.toList[i]? = some (bitV n (wid v - 1 - i)):=by
   rw [← hs,zq1097,zq426,if_pos hi]
  simp only [zq9]
  rw [decide_eq_true (show (i : Int) < lenS s by unfold lenS;omega),zq445,zq1398 (zq699 (by omega) (by unfold lenS;omega)),zq1398 (zq693 (by unfold lenS;omega) (by unfold lenS;omega)),zq456 hb,zq421]
  have hst:=zq310 (v:=v) (k:=wid v - (i + 1)) hn
  rw [show wid v - (i + 1) + 1 = wid v - i by omega,show wid v - (i + 1) = wid v - 1 - i by omega] at hst
  rw [show ((i : Int) + 1) = ((i + 1 : Nat) : Int) by omega,show wid v - (i + 1) = wid v - 1 - i by omega] at *
  by_cases hk : wid v - i > 64
  ·rw [if_pos hk] at hst
   rw [decide_eq_true (show lenS s - (i : Int) > 64 by unfold lenS;omega),zq445,zq1398 (zq693 (by omega) (by omega))]
   rw [show (accN v n (wid v - i)).v6 = v from rfl,← hst,hr]
  ·rw [if_neg hk] at hst
   rw [decide_eq_false (show ¬ lenS s - (i : Int) > 64 by unfold lenS;omega),zq443,zq1398 (zq693 (by omega) (by omega))]
   rw [show (accN v n (wid v - i)).v6 = v from rfl,← hst,hr]
 ·simp only [zq9]
  rw [decide_eq_false (show ¬ ((wid v : Nat) : Int) < lenS s by unfold lenS;omega),zq443]
  have : accN v n (wid v - wid v) = ofNum v n:=by
   unfold accN ofNum
   rw [Nat.sub_self,show max 0 64 = 64 from rfl,show (2 : Nat) ^ 64 = 18446744073709551616 from rfl,Nat.pow_zero,Nat.div_one]
  rw [this]
theorem zq181 {v : Bool} {n : Nat} (h : n < 2 ^ wid v) : zq183 (ofNum v n) = some (if n + 1 < 2 ^ wid v then (ofNum v (n + 1),true,()) else (⟨false,0,0⟩,false,())):=by
 have hin:=zq1102 h
 have hwl:=zq1735 v
 unfold zq183
 rw [zq27 hin,zq415,zq422 hin.wf (zq1101 h),zq1094,show (ofNum v n).v6 = v from rfl]
 rw [zq1398 (Nat.ble_eq_true_of_le (by rw [zq1098,zq427];omega)),zq1097,zq1028,zq704 _ _ h]
 by_cases h1 : n + 1 < 2 ^ wid v
 ·rw [if_pos h1,if_pos h1]
  simp only
  have : (⟨(lsbL (n + 1) (wid v)).reverse.toArray⟩ : ByteArray) = zq1096 (zq424 (n + 1) (wid v - 1) (wid v)):=by
   rw [← zq1028,List.reverse_reverse]
   rfl
  rw [this,zq15 h1,zq415]
 ·rw [if_neg h1,if_neg h1]
end Go.Ma
