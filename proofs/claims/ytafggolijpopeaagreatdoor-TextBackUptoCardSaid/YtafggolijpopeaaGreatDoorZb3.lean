/-
  Parts: Pl Qa Qf Qk Qp Qc MaJ Pa Pb Ra Pc He MaW Ge Pm Rb Rc Rd Pf Po Ca Ce Re Pw La Pv Lb Lc Ld Le.
-/
import Derived.Lib.Split
import Derived.Lib.SplitLaws
import Derived.Lib.Join
import Derived.Lib.ItoaNum
import Derived.Lib.Atoi
import Derived.Lib.AtoiAll
import Derived.Lib.AtoiAllCases
import Derived.Lib.ParseIntB
import Derived.Lib.Bytealg
import Derived.Laws.Entries
import Derived.Lib.IndexMore
import Derived.Laws.StructEq
import Derived.IntWalk
import Derived.Lib.IndexLaws
import Derived.Test.YtafggolijpopeaaGreatDoorZb2
set_option linter.unusedVariables false
set_option linter.unusedSimpArgs false
open List renaming getElem?_eq_getElem → zc0, getElem?_eq_some_iff → zc1, mem_of_getElem? → zc5, getElem?_append_left → zc6, getElem?_append_right → zc12, drop_of_length_le → zc18, length_take → zc20, length_cons → zc21, length_append → zc24, take_succ_eq_append_getElem → zc26, mem_cons → zc28, length_nil → zc32, getElem?_cons_succ → zc35, mem_append → zc36, length_map → zc37, not_mem_nil → zc38, mem_singleton → zc39, getElem?_drop → zc40, cons_append → zc43, append_assoc → zc48
open Option.some renaming injEq → zc2
open Bool renaming and_eq_true → zc4, not_true → zc10, false_eq_true → zc16, not_false → zc19
open Option renaming map_eq_some_iff → zc7
open Int renaming toNat_natCast → zc42
open Nat renaming le_refl → zc49
open Decidable renaming not_not → zc51
noncomputable section
namespace Go.Ma
open Go
def zq96 (a0 : Ad) : Option (Int × Unit) :=
 (br (!a0.v6)
 (br (!decide (a0.hi = 0))
 (some true)
 (some (decide (a0.lo ≥ 4294967296))))
 (some false)).bind fun c1 =>
 br c1
 (some (3,()))
 (some (0,()))
def zq1099 (a0 : Ad) : Option (Int × Unit) :=
 br a0.v6
 (some (128,()))
 (some (32,()))
def zq1106 (a0 : Ad) (a1 : Int) : Option (Ad × Unit) :=
 (zq1099 a0).bind fun y1 =>
 req (i64ok (y1.1 - a1)) <|
 br (decide (y1.1 - a1 < 64))
 (req (decide (0 ≤ y1.1 - a1)) <|
 br (decide (y1.1 - a1 > 64))
 (br (decide (y1.1 - a1 < 128))
 (req (i64ok ((y1.1 - a1) - 64)) <|
 req (decide (0 ≤ (y1.1 - a1) - 64)) <|
 some ((⟨a0.v6,aop .sub .u64 (aop .shl .u64 1 ((y1.1 - a1) - 64)) 1,aop .sub .u64 (aop .shl .u64 1 (y1.1 - a1)) 1⟩ : Ad),()))
 (some ((⟨a0.v6,18446744073709551615,aop .sub .u64 (aop .shl .u64 1 (y1.1 - a1)) 1⟩ : Ad),())))
 (some ((⟨a0.v6,0,aop .sub .u64 (aop .shl .u64 1 (y1.1 - a1)) 1⟩ : Ad),())))
 (br (decide (y1.1 - a1 > 64))
 (br (decide (y1.1 - a1 < 128))
 (req (i64ok ((y1.1 - a1) - 64)) <|
 req (decide (0 ≤ (y1.1 - a1) - 64)) <|
 some ((⟨a0.v6,aop .sub .u64 (aop .shl .u64 1 ((y1.1 - a1) - 64)) 1,18446744073709551615⟩ : Ad),()))
 (some ((⟨a0.v6,18446744073709551615,18446744073709551615⟩ : Ad),())))
 (some ((⟨a0.v6,0,18446744073709551615⟩ : Ad),())))
def zq1048 (a0 : Ad) (a1 : Int) : Option (Ad × Unit) :=
 (zq1106 a0 a1).bind fun y1 =>
 some ((⟨a0.v6,aop .andNot .u64 a0.hi y1.1.hi,aop .andNot .u64 a0.lo y1.1.lo⟩ : Ad),())
def zq1042 (a0 : Pf) : Option (Int × Unit) :=
 (zq96 a0.ad).bind fun y1 =>
 br (!decide (y1.1 = 0))
 (some (y1.1,()))
 ((br (decide (a0.bits < 0))
 (some true)
 ((zq1099 a0.ad).bind fun y2 =>
 some (decide (a0.bits > y2.1)))).bind fun c2 =>
 br c2
 (some (3,()))
 ((zq1048 a0.ad a0.bits).bind fun y3 =>
 br (!(eqAd y3.1 a0.ad))
 (some (4,()))
 (some (0,()))))
def zq128 (a0 : Ad) (a1 : Int) : Option (Int × Unit) :=
 br (decide (a1 < 4))
 (req (i64ok (16 * a1)) <|
 req (i64ok (48 - (16 * a1))) <|
 req (decide (0 ≤ 48 - (16 * a1))) <|
 some (aop .and .u64 (aop .shr .u64 a0.hi (48 - (16 * a1))) 65535,()))
 (req (i64ok (16 * a1)) <|
 req (i64ok (112 - (16 * a1))) <|
 req (decide (0 ≤ 112 - (16 * a1))) <|
 some (aop .and .u64 (aop .shr .u64 a0.lo (112 - (16 * a1))) 65535,()))
abbrev addr_row_L2_A := (((Int × Unit) × Unit × (Int × Unit) × Unit) × ((Ad × Unit) × Unit))
abbrev addr_row_L2_B := Option (((Int × Unit) × Unit) × Unit)
def zq145 (rec : addr_row_L2_A → addr_row_L2_B) (x : addr_row_L2_A) : addr_row_L2_B :=
 let v0 := x.1.1.1
 let v1 := x.1.2.2.1.1
 let v2 := x.2.1.1
 req (i64ok (v0 + v1)) <|
 (br (decide (v0 + v1 < 8))
 (req (i64ok (v0 + v1)) <|
 (zq128 v2 (v0 + v1)).bind fun y1 =>
 some (decide (y1.1 = 0)))
 (some false)).bind fun c1 =>
 br c1
 (req (i64ok (v1 + 1)) <|
 rec (((v0,()),(),(v1 + 1,()),()),((v2,()),())))
 (some (((v1,()),()),()))
def zq152 (a0 : Ad) (a1 : Int) : Option (Int × Unit) :=
 (loopN zq145 FUEL (((a1,()),(()),(0,()),()),((a0,()),()))).bind fun y1 =>
 some (y1.1.1.1,())
abbrev addr_longest_L3_A := ((Unit × (Int × Unit) × (Int × Unit) × (Int × Unit) × Unit) × ((Ad × Unit) × Unit))
abbrev addr_longest_L3_B := Option (((Int × Unit) × (Int × Unit) × Unit) × Unit)
def zq137 (rec : addr_longest_L3_A → addr_longest_L3_B) (x : addr_longest_L3_A) : addr_longest_L3_B :=
 let v0 := x.1.2.1.1
 let v1 := x.1.2.2.1.1
 let v2 := x.1.2.2.2.1.1
 let v3 := x.2.1.1
 br (decide (v2 < 8))
 ((zq152 v3 v2).bind fun y1 =>
 br (decide (y1.1 > v1))
 (req (i64ok (v2 + 1)) <|
 rec (((),(v2,()),(y1.1,()),(v2 + 1,()),()),((v3,()),())))
 (req (i64ok (v2 + 1)) <|
 rec (((),(v0,()),(v1,()),(v2 + 1,()),()),((v3,()),()))))
 (some (((v0,()),(v1,()),()),()))
def zq144 (a0 : Ad) : Option (Int × Int × Unit) :=
 (loopN zq137 FUEL (((()),(0,()),(1,()),(0,()),()),((a0,()),()))).bind fun y1 =>
 br (decide (y1.1.2.1.1 < 2))
 (some (0,0,()))
 (some (y1.1.1.1,y1.1.2.1.1,()))
def zq1057 (a0 : Pf) (a1 : Ad) : Option (Bool × Unit) :=
 (br (beqB a0.ad.v6 a1.v6)
 ((zq1048 a1 a0.bits).bind fun y1 =>
 some (eqAd y1.1 a0.ad))
 (some false)).bind fun c1 =>
 some (c1,())
def zq1081 (a0 : Pf) (a1 : Pf) : Option (Bool × Unit) :=
 (br (decide (a0.bits ≤ a1.bits))
 ((zq1057 a0 a1.ad).bind fun y1 =>
 some y1.1)
 (some false)).bind fun c1 =>
 some (c1,())
def zq1063 (a0 : Pf) : Option (Ad × Unit) :=
 (zq1106 a0.ad a0.bits).bind fun y1 =>
 some ((⟨a0.ad.v6,aop .or .u64 a0.ad.hi y1.1.hi,aop .or .u64 a0.ad.lo y1.1.lo⟩ : Ad),())
def zq90 (a0 : Ad) : Option (Ad × Bool × Unit) :=
 (br a0.v6
 (some (decide (aop .add .u64 a0.lo 1 = 0)))
 (some false)).bind fun c1 =>
 br c1
 (some ((⟨a0.v6,aop .add .u64 a0.hi 1,aop .add .u64 a0.lo 1⟩ : Ad),!decide (aop .add .u64 a0.hi 1 = 0),()))
 (br a0.v6
 (both
 (dup 1 <|
 some ((⟨a0.v6,a0.hi,aop .add .u64 a0.lo 1⟩ : Ad),true,()))
 (some ((⟨a0.v6,a0.hi,aop .add .u64 a0.lo 1⟩ : Ad),true,())))
 (some ((⟨a0.v6,a0.hi,aop .add .u64 a0.lo 1⟩ : Ad),decide (aop .add .u64 a0.lo 1 < 4294967296),())))
def zq657 (a0 : Int) : Option (Ad × Unit) :=
 some ((⟨false,0,a0⟩ : Ad),())
def zq636 (a0 : Int) (a1 : Int) : Option (Pf × Unit) :=
 (zq657 a0).bind fun y1 =>
 some ((⟨y1.1,a1⟩ : Pf),())
def zq1465 (a0 : Int) (a1 : Int) (a2 : Int) : Option (Bool × Unit) :=
 (br (decide (a0 ≥ a1))
 (some (decide (a0 ≤ a2)))
 (some false)).bind fun c1 =>
 some (c1,())
def zq1441 (a0 : Oq) : Option (Bool × Unit) :=
 (br (!decide (a0.kind = 1))
 (some (!(eqPf a0.pf (⟨(⟨false,0,0⟩ : Ad),0⟩ : Pf))))
 (some false)).bind fun c1 =>
 (br c1
 (some true)
 (br (!decide (a0.kind = 2))
 (some (!(eqAd a0.ad (⟨false,0,0⟩ : Ad))))
 (some false))).bind fun c2 =>
 (br c2
 (some true)
 (br (!decide (a0.kind = 3))
 (br (!decide (a0.kind = 4))
 (some (zq1477 .neq a0.who (ByteArray.empty)))
 (some false))
 (some false))).bind fun c3 =>
 (br c3
 (some true)
 (br (!decide (a0.kind = 3))
 (some (!decide (a0.of_ = 0)))
 (some false))).bind fun c4 =>
 (br c4
 (some true)
 (br (!decide (a0.kind = 3))
 (br (!decide (a0.kind = 5))
 (some (!decide (a0.n = 0)))
 (some false))
 (some false))).bind fun c5 =>
 some (c5,())
def zq701 (a0 : Pf) : Option (Bool × Unit) :=
 (zq1099 a0.ad).bind fun y1 =>
 req (i64ok (y1.1 - a0.bits)) <|
 some (decide (y1.1 - a0.bits ≤ 4),())
def zq763 (a0 : Int) (a1 : Int) (a2 : Int) : Option (Bool × Unit) :=
 (br (decide (a0 ≥ a1))
 (some (decide (a0 ≤ a2)))
 (some false)).bind fun c1 =>
 some (c1,())
abbrev lease_Who_L2_A := (((ByteArray × Unit) × (Int × Unit) × (Int × Unit) × Unit) × Unit)
abbrev lease_Who_L2_B := Option ((((Bool × Unit) × Unit) × Unit) ⊕ (((ByteArray × Unit) × Unit) × Unit))
def zq743 (rec : lease_Who_L2_A → lease_Who_L2_B) (x : lease_Who_L2_A) : lease_Who_L2_B :=
 let v0 := x.1.1.1
 let v1 := x.1.2.1.1
 let v2 := x.1.2.2.1.1
 br (decide (v2 < v1))
 (req (zq523 v2 (lenS v0)) <|
 (br (decide (zq240 v0 v2 ≥ 97))
 (some (decide (zq240 v0 v2 ≤ 122)))
 (some false)).bind fun c1 =>
 (br (!c1)
 (br (decide (zq240 v0 v2 ≥ 48))
 (some (!(decide (zq240 v0 v2 ≤ 57))))
 (some true))
 (some false)).bind fun c2 =>
 br c2
 (some (Sum.inl (((false,()),()),())))
 (req (i64ok (v2 + 1)) <|
 rec (((v0,()),(v1,()),(v2 + 1,()),()),())))
 (some (Sum.inr ((((v0,()),()),()))))
def zq751 (a0 : ByteArray) : Option (Bool × Unit) :=
 (loopN zq743 FUEL (((a0,()),(lenS a0,()),(0,()),()),(()))).bind fun y1 =>
 sumC y1 (fun y2 =>
 some (y2.1.1.1,())) (fun y3 =>
 (zq763 (lenS y3.1.1.1) 1 8).bind fun y4 =>
 some (y4.1,()))
def zq1380 (a0 : Oq) : Option (Int × Unit) :=
 (zq1465 a0.kind 1 5).bind fun y1 =>
 br (!y1.1)
 (some (7,()))
 ((zq1441 a0).bind fun y2 =>
 br y2.1
 (some (1,()))
 (br (decide (a0.kind = 1))
 ((zq1042 a0.pf).bind fun y3 =>
 br (!decide (y3.1 = 0))
 (some (y3.1,()))
 ((zq701 a0.pf).bind fun y4 =>
 br (!y4.1)
 (some (2,()))
 (some (0,()))))
 (br (decide (a0.kind = 2))
 ((zq96 a0.ad).bind fun y3 =>
 some (y3.1,()))
 (br (decide (a0.kind = 3))
 (br (decide (a0.kind = 3))
 ((zq751 a0.who).bind fun y3 =>
 br (!y3.1)
 (some (1,()))
 ((br (decide (a0.kind = 3))
 ((zq1465 a0.of_ 0 2).bind fun y4 =>
 br (!y4.1)
 (some true)
 ((zq1465 a0.n 1 500).bind fun y5 =>
 some (!y5.1)))
 (some false)).bind fun c4 =>
 br c4
 (some (3,()))
 (some (0,()))))
 (br (decide (a0.kind = 5))
 ((zq1465 a0.n 0 9999).bind fun y3 =>
 br (!y3.1)
 (some (3,()))
 (some (0,())))
 (some (0,()))))
 (br (decide (a0.kind = 4))
 ((zq751 a0.who).bind fun y3 =>
 br (!y3.1)
 (some (1,()))
 ((br (decide (a0.kind = 3))
 ((zq1465 a0.of_ 0 2).bind fun y4 =>
 br (!y4.1)
 (some true)
 ((zq1465 a0.n 1 500).bind fun y5 =>
 some (!y5.1)))
 (some false)).bind fun c4 =>
 br c4
 (some (3,()))
 (some (0,()))))
 (br (decide (a0.kind = 5))
 ((zq1465 a0.n 0 9999).bind fun y3 =>
 br (!y3.1)
 (some (3,()))
 (some (0,())))
 (some (0,()))))))))
def zq1553 (a0 : Int) (a1 : List ByteArray) : Option (ByteArray × Unit) :=
 br (decide (a0 < lenL a1))
 (req (zq523 a0 (lenL a1)) <|
 (geti a1 a0).bind fun p1 =>
 some (p1,()))
 (some ((ByteArray.empty),()))
def zq642 : Option ((List Oq) × Unit) :=
 (zq636 8 30).bind fun y1 =>
 (zq657 8).bind fun y2 =>
 some (([(⟨1,y1.1,(⟨false,0,0⟩ : Ad),(ByteArray.empty),0,0⟩ : Oq),(⟨2,(⟨(⟨false,0,0⟩ : Ad),0⟩ : Pf),y2.1,(ByteArray.empty),0,0⟩ : Oq),(⟨3,(⟨(⟨false,0,0⟩ : Ad),0⟩ : Pf),(⟨false,0,0⟩ : Ad),(⟨#[120]⟩ : ByteArray),0,10⟩ : Oq)] : List Oq),())
def zq101 (a0 : Int) (a1 : Int) : Option (Int × Unit) :=
 br (decide (a0 < a1))
 (some ((-1),()))
 (br (decide (a0 > a1))
 (some (1,()))
 (some (0,())))
def zq107 (a0 : Ad) (a1 : Ad) : Option (Int × Unit) :=
 (br (!(beqB a0.v6 a1.v6))
 (some a1.v6)
 (some false)).bind fun c1 =>
 br c1
 (some ((-1),()))
 (br (!(beqB a0.v6 a1.v6))
 (some (1,()))
 (br (!decide (a0.hi = a1.hi))
 ((zq101 a0.hi a1.hi).bind fun y2 =>
 some (y2.1,()))
 ((zq101 a0.lo a1.lo).bind fun y2 =>
 some (y2.1,()))))
abbrev lease_Pool_L7_A := ((Unit × Unit × (Int × Unit) × (Int × Unit) × Unit) × (List Ad × (Bool × Int × Int × Int × Unit) × Unit))
abbrev lease_Pool_L7_B := Option ((((Int × Unit) × Unit) × (List Ad × Unit)) ⊕ (Unit × (List Ad × Unit)))
def zq702 (rec : lease_Pool_L7_A → lease_Pool_L7_B) (x : lease_Pool_L7_A) : lease_Pool_L7_B :=
 let v0 := x.1.2.2.1.1
 let v1 := x.1.2.2.2.1.1
 let v2 := x.2.1
 let v3 := x.2.2.1.1
 let v4 := x.2.2.1.2.1
 let v5 := x.2.2.1.2.2.1
 let v6 := x.2.2.1.2.2.2.1
 br (decide (v1 < v0))
 (req (zq523 v1 (lenL v2)) <|
 (geti v2 v1).bind fun p1 =>
 (zq96 p1).bind fun y2 =>
 br (!decide (y2.1 = 0))
 (some (Sum.inl (((y2.1,()),()),(v2,()))))
 ((zq1057 (⟨(⟨v3,v4,v5⟩ : Ad),v6⟩ : Pf) p1).bind fun y3 =>
 br (!y3.1)
 (some (Sum.inl (((5,()),()),(v2,()))))
 ((br (decide (v1 > 0))
 (req (i64ok (v1 - 1)) <|
 req (zq523 (v1 - 1) (lenL v2)) <|
 (geti v2 (v1 - 1)).bind fun p4 =>
 (zq107 p4 p1).bind fun y5 =>
 some (decide (y5.1 ≥ 0)))
 (some false)).bind fun c4 =>
 br c4
 (some (Sum.inl (((4,()),()),(v2,()))))
 (req (i64ok (v1 + 1)) <|
 rec (((),(),(v0,()),(v1 + 1,()),()),(v2,(v3,v4,v5,v6,()),()))))))
 (some (Sum.inr (((),(v2,())))))
def zq710 (a0 : Pf) (a1 : List Ad) : Option (Int × Unit) :=
 (zq1042 a0).bind fun y1 =>
 br (!decide (y1.1 = 0))
 (some (y1.1,()))
 ((zq701 a0).bind fun y2 =>
 (br (!y2.1)
 (some true)
 (some (decide (lenL a1 > 6)))).bind fun c3 =>
 br c3
 (some (2,()))
 ((loopN zq702 FUEL (((()),(()),(lenL a1,()),(0,()),()),(a1,(a0.ad.v6,a0.ad.hi,a0.ad.lo,a0.bits,()),()))).bind fun y4 =>
 sumC y4 (fun y5 =>
 some (y5.1.1.1,())) (fun y6 =>
 some (0,()))))
def zq1075 (a0 : Pf) (a1 : Pf) : Option (Int × Unit) :=
 (zq107 a0.ad a1.ad).bind fun y1 =>
 br (!decide (y1.1 = 0))
 (some (y1.1,()))
 (req (i64ok (a0.bits - a1.bits)) <|
 some (a0.bits - a1.bits,()))
def zq1069 (a0 : Pf) (a1 : Pf) : Option (Bool × Unit) :=
 (zq1081 a0 a1).bind fun y1 =>
 (br y1.1
 (some true)
 ((zq1081 a1 a0).bind fun y2 =>
 some y2.1)).bind fun c2 =>
 some (c2,())
def zq757 (a0 : Ls) : Option (Int × Unit) :=
 (zq96 a0.ad).bind fun y1 =>
 br (!decide (y1.1 = 0))
 (some (y1.1,()))
 ((zq751 a0.who).bind fun y2 =>
 br (!y2.1)
 (some (1,()))
 ((zq763 a0.upto 0 10499).bind fun y3 =>
 br (!y3.1)
 (some (3,()))
 (some (0,()))))
abbrev lease_All_L4_A := ((Unit × (Int × Unit) × Unit × (Int × Unit) × (Int × Unit) × Unit) × (List Ls × Unit))
abbrev lease_All_L4_B := Option ((((Int × Unit) × Unit) × (List Ls × Unit)) ⊕ ((Unit × (Int × Unit) × Unit) × (List Ls × Unit)))
def zq664 (rec : lease_All_L4_A → lease_All_L4_B) (x : lease_All_L4_A) : lease_All_L4_B :=
 let v0 := x.1.2.1.1
 let v1 := x.1.2.2.2.1.1
 let v2 := x.1.2.2.2.2.1.1
 let v3 := x.2.1
 br (decide (v2 < v1))
 (req (zq523 v2 (lenL v3)) <|
 (geti v3 v2).bind fun p1 =>
 (zq757 p1).bind fun y2 =>
 br (!decide (y2.1 = 0))
 (some (Sum.inl (((y2.1,()),()),(v3,()))))
 (req (i64ok (v2 + 1)) <|
 rec (((),(v0,()),(),(v1,()),(v2 + 1,()),()),(v3,()))))
 (some (Sum.inr ((((),(v0,()),()),(v3,())))))
abbrev lease_All_L11_A := ((Unit × (Int × Unit) × (Int × Unit) × Unit) × (List Ls × Unit))
abbrev lease_All_L11_B := Option ((((Int × Unit) × Unit) × (List Ls × Unit)) ⊕ (((Int × Unit) × Unit) × (List Ls × Unit)))
def zq661 (rec : lease_All_L11_A → lease_All_L11_B) (x : lease_All_L11_A) : lease_All_L11_B :=
 let v0 := x.1.2.1.1
 let v1 := x.1.2.2.1.1
 let v2 := x.2.1
 br (decide (v1 < lenL v2))
 (req (i64ok (v1 - 1)) <|
 req (zq523 (v1 - 1) (lenL v2)) <|
 req (zq523 (v1 - 1) (lenL v2)) <|
 (geti v2 (v1 - 1)).bind fun p1 =>
 req (zq523 v1 (lenL v2)) <|
 req (zq523 v1 (lenL v2)) <|
 (geti v2 v1).bind fun p2 =>
 (zq107 p1.ad p2.ad).bind fun y3 =>
 br (decide (y3.1 ≥ 0))
 (some (Sum.inl (((4,()),()),(v2,()))))
 (req (i64ok (v1 + 1)) <|
 rec (((),(v0,()),(v1 + 1,()),()),(v2,()))))
 (some (Sum.inr ((((v0,()),()),(v2,())))))
def zq672 (a0 : List Ls) (a1 : Int) : Option (Int × Unit) :=
 br (decide (lenL a0 > 20))
 (some (2,()))
 ((loopN zq664 FUEL (((()),(a1,()),(()),(lenL a0,()),(0,()),()),(a0,()))).bind fun y1 =>
 sumC y1 (fun y2 =>
 some (y2.1.1.1,())) (fun y3 =>
 (loopN zq661 FUEL (((()),(y3.1.2.1.1,()),(1,()),()),(y3.2.1,()))).bind fun y4 =>
 sumC y4 (fun y5 =>
 some (y5.1.1.1,())) (fun y6 =>
 (zq763 y6.1.1.1 0 9999).bind fun y7 =>
 br (!y7.1)
 (some (3,()))
 (some (0,())))))
def zq1447 (a0 : Pf) (a1 : List Ad) (a2 : Ad) : Option (Bool × Unit) :=
 (zq1057 a0 a2).bind fun y1 =>
 some (y1.1,())
abbrev state_poolOf_slices_IndexFunc___api_Pool_api_Pool__L2_A := ((Unit × Unit × (Int × Unit) × (Int × Unit) × Unit) × (List (List Ad) × List Pf × List Ls × (Int × Unit) × (Ad × Unit) × Unit))
abbrev state_poolOf_slices_IndexFunc___api_Pool_api_Pool__L2_B := Option ((((Int × Unit) × Unit) × (List (List Ad) × List Pf × List Ls × (Int × Unit) × (Ad × Unit) × Unit)) ⊕ (Unit × (List (List Ad) × List Pf × List Ls × (Int × Unit) × (Ad × Unit) × Unit)))
def zq1453 (rec : state_poolOf_slices_IndexFunc___api_Pool_api_Pool__L2_A → state_poolOf_slices_IndexFunc___api_Pool_api_Pool__L2_B) (x : state_poolOf_slices_IndexFunc___api_Pool_api_Pool__L2_A) : state_poolOf_slices_IndexFunc___api_Pool_api_Pool__L2_B :=
 let v0 := x.1.2.2.1.1
 let v1 := x.1.2.2.2.1.1
 let v2 := x.2.1
 let v3 := x.2.2.1
 let v4 := x.2.2.2.1
 let v5 := x.2.2.2.2.1.1
 let v6 := x.2.2.2.2.2.1.1
 br (decide (v1 < v0))
 (req (zq523 v1 (lenL v3)) <|
 (geti v3 v1).bind fun p1 =>
 (zq1447 p1 (getL v2 v1) v6).bind fun y2 =>
 br y2.1
 (some (Sum.inl (((v1,()),()),(v2,v3,v4,(v5,()),(v6,()),()))))
 (req (i64ok (v1 + 1)) <|
 rec (((),(),(v0,()),(v1 + 1,()),()),(v2,v3,v4,(v5,()),(v6,()),()))))
 (some (Sum.inr (((),(v2,v3,v4,(v5,()),(v6,()),())))))
def zq1459 (a0 : List Pf × List (List Ad)) (a1 : List Ls) (a2 : Int) (a3 : Ad) : Option (Int × Unit) :=
 (loopN zq1453 FUEL (((()),(()),(lenL a0.1,()),(0,()),()),(a0.2,a0.1,a1,(a2,()),(a3,()),()))).bind fun y1 =>
 sumC y1 (fun y2 =>
 some (y2.1.1.1,())) (fun y3 =>
 some ((-1),()))
def zq1274 (a0 : List Ls) : Option ((List Ls) × Unit) :=
 nilB a0.length
 (some (([] : List Ls),()))
 (req (room (lenL ([] : List Ls)) (lenL a0)) <|
 some (([] : List Ls) ++ a0,()))
def zq1269 (a0 : List Ad) : Option ((List Ad) × Unit) :=
 nilB a0.length
 (some (([] : List Ad),()))
 (req (room (lenL ([] : List Ad)) (lenL a0)) <|
 some (([] : List Ad) ++ a0,()))
abbrev state_Own_L3_A := ((Unit × Unit × Unit × (Int × Unit) × (Int × Unit) × Unit) × (List (List Ad) × List Pf × List Ls × (Int × Unit) × (Int × Unit) × List Pf × List Ls × List Pf × List Ls × List (List Ad) × List (List Ad) × Unit))
abbrev state_Own_L3_B := Option ((Unit × Unit × Unit) × (List (List Ad) × List Pf × List Ls × (Int × Unit) × (Int × Unit) × List Pf × List Ls × List Pf × List Ls × List (List Ad) × List (List Ad) × Unit))
def zq1381 (rec : state_Own_L3_A → state_Own_L3_B) (x : state_Own_L3_A) : state_Own_L3_B :=
 let v0 := x.1.2.2.2.1.1
 let v1 := x.1.2.2.2.2.1.1
 let v2 := x.2.1
 let v3 := x.2.2.1
 let v4 := x.2.2.2.1
 let v5 := x.2.2.2.2.1.1
 let v6 := x.2.2.2.2.2.1.1
 let zz := x.2.2.2.2.2.2
 let v7 := zz.1
 let v8 := zz.2.1
 let v9 := zz.2.2.1
 let v10 := zz.2.2.2.1
 let v11 := zz.2.2.2.2.1
 let v12 := zz.2.2.2.2.2.1
 br (decide (v1 < v0))
 (req (zq523 v1 (lenL v3)) <|
 (geti v3 v1).bind fun p1 =>
 both
 (both
 ((zq1269 (getL v2 v1)).bind fun y2 =>
 req (room (lenL v9) (lenL ([p1] : List Pf))) <|
 req (i64ok (v1 + 1)) <|
 rec (((),(),(),(v0,()),(v1 + 1,()),()),(v2,v3,v4,(v5,()),(v6,()),v7,v8,v9 ++ ([p1] : List Pf),v10,v11,padL v9.length v12 ++ ([y2.1] : List (List Ad)),())))
 ((zq1269 (getL v2 v1)).bind fun y2 =>
 dup 1 <|
 req (room (lenL v9) (lenL ([p1] : List Pf))) <|
 req (i64ok (v1 + 1)) <|
 rec (((),(),(),(v0,()),(v1 + 1,()),()),(v2,v3,v4,(v5,()),(v6,()),v7,v8,v9 ++ ([p1] : List Pf),v10,v11,padL v9.length v12 ++ ([y2.1] : List (List Ad)),()))))
 ((zq1269 (getL v2 v1)).bind fun y2 =>
 both
 (dup 1 <|
 req (room (lenL v9) (lenL ([p1] : List Pf))) <|
 req (i64ok (v1 + 1)) <|
 rec (((),(),(),(v0,()),(v1 + 1,()),()),(v2,v3,v4,(v5,()),(v6,()),v7,v8,v9 ++ ([p1] : List Pf),v10,v11,padL v9.length v12 ++ ([y2.1] : List (List Ad)),())))
 (req (room (lenL v9) (lenL ([p1] : List Pf))) <|
 req (i64ok (v1 + 1)) <|
 rec (((),(),(),(v0,()),(v1 + 1,()),()),(v2,v3,v4,(v5,()),(v6,()),v7,v8,v9 ++ ([p1] : List Pf),v10,v11,padL v9.length v12 ++ ([y2.1] : List (List Ad)),())))))
 (some (((),(),()),(v2,v3,v4,(v5,()),(v6,()),v7,v8,v9,v10,v11,v12,())))
def zq1389 (a0 : List Pf × List (List Ad)) (a1 : List Ls) (a2 : Int) : Option (((List Pf × List (List Ad)) × (List Ls) × Int × Unit) × Unit) :=
 dup 1 <|
 (zq1274 a1).bind fun y1 =>
 (loopN zq1381 FUEL (((()),(()),(()),(lenL a0.1,()),(0,()),()),(a0.2,a0.1,a1,(0,()),(a2,()),([] : List Pf),([] : List Ls),([] : List Pf),y1.1,([] : List (List Ad)),([] : List (List Ad)),()))).bind fun y2 =>
 some (((y2.2.2.2.2.2.2.2.2.1,y2.2.2.2.2.2.2.2.2.2.2.2.1),y2.2.2.2.2.2.2.2.2.2.1,y2.2.2.2.2.2.1.1,()),())
def zq63 (a0 : Pf) (a1 : List Ad) (a2 : Pf) : Option (Bool × Unit) :=
 (zq1069 a0 a2).bind fun y1 =>
 some (y1.1,())
def zq68 (a0 : Pf) (a1 : List Ad) (a2 : Pf) : Option (Int × Unit) :=
 (zq1075 a0 a2).bind fun y1 =>
 some (y1.1,())
def zq47 (a0 : Ls) (a1 : ByteArray) : Option (Bool × Unit) :=
 some (zq1477 .eql a0.who a1,())
abbrev m_state_doer__find_slices_IndexFunc___api_Lease_api_Lease__L2_A := ((Unit × Unit × (Int × Unit) × (Int × Unit) × Unit) × ((Int × Unit) × List (List Ad) × List Pf × List Ls × (ByteArray × Unit) × Unit))
abbrev m_state_doer__find_slices_IndexFunc___api_Lease_api_Lease__L2_B := Option ((((Int × Unit) × Unit) × ((Int × Unit) × List (List Ad) × List Pf × List Ls × (ByteArray × Unit) × Unit)) ⊕ (Unit × ((Int × Unit) × List (List Ad) × List Pf × List Ls × (ByteArray × Unit) × Unit)))
def zq52 (rec : m_state_doer__find_slices_IndexFunc___api_Lease_api_Lease__L2_A → m_state_doer__find_slices_IndexFunc___api_Lease_api_Lease__L2_B) (x : m_state_doer__find_slices_IndexFunc___api_Lease_api_Lease__L2_A) : m_state_doer__find_slices_IndexFunc___api_Lease_api_Lease__L2_B :=
 let v0 := x.1.2.2.1.1
 let v1 := x.1.2.2.2.1.1
 let v2 := x.2.1.1
 let v3 := x.2.2.1
 let v4 := x.2.2.2.1
 let v5 := x.2.2.2.2.1
 let v6 := x.2.2.2.2.2.1.1
 br (decide (v1 < v0))
 (req (zq523 v1 (lenL v5)) <|
 (geti v5 v1).bind fun p1 =>
 (zq47 p1 v6).bind fun y2 =>
 br y2.1
 (some (Sum.inl (((v1,()),()),((v2,()),v3,v4,v5,(v6,()),()))))
 (req (i64ok (v1 + 1)) <|
 rec (((),(),(v0,()),(v1 + 1,()),()),((v2,()),v3,v4,v5,(v6,()),()))))
 (some (Sum.inr (((),((v2,()),v3,v4,v5,(v6,()),())))))
def zq58 (a0 : List Pf × List (List Ad)) (a1 : List Ls) (a2 : Int) (a3 : ByteArray) : Option (Int × Unit) :=
 (loopN zq52 FUEL (((()),(()),(lenL a1,()),(0,()),()),((a2,()),a0.2,a0.1,a1,(a3,()),()))).bind fun y1 =>
 sumC y1 (fun y2 =>
 some (y2.1.1.1,())) (fun y3 =>
 some ((-1),()))
def zq677 (a0 : Ls) (a1 : Int) : Option (Bool × Unit) :=
 some (decide (a0.upto < a1),())
abbrev lease_Live_slices_DeleteFunc___api_Lease_api_Lease__slices_IndexFunc___api_Lease_api_Lease__L2_A := ((Unit × Unit × (Int × Unit) × (Int × Unit) × Unit) × (List Ls × (Int × Unit) × List Ls × List Ls × List Ls × Unit))
abbrev lease_Live_slices_DeleteFunc___api_Lease_api_Lease__slices_IndexFunc___api_Lease_api_Lease__L2_B := Option ((((Int × Unit) × Unit) × (List Ls × (Int × Unit) × List Ls × List Ls × List Ls × Unit)) ⊕ (Unit × (List Ls × (Int × Unit) × List Ls × List Ls × List Ls × Unit)))
def zq689 (rec : lease_Live_slices_DeleteFunc___api_Lease_api_Lease__slices_IndexFunc___api_Lease_api_Lease__L2_A → lease_Live_slices_DeleteFunc___api_Lease_api_Lease__slices_IndexFunc___api_Lease_api_Lease__L2_B) (x : lease_Live_slices_DeleteFunc___api_Lease_api_Lease__slices_IndexFunc___api_Lease_api_Lease__L2_A) : lease_Live_slices_DeleteFunc___api_Lease_api_Lease__slices_IndexFunc___api_Lease_api_Lease__L2_B :=
 let v0 := x.1.2.2.1.1
 let v1 := x.1.2.2.2.1.1
 let v2 := x.2.1
 let v3 := x.2.2.1.1
 let v4 := x.2.2.2.1
 let v5 := x.2.2.2.2.1
 let v6 := x.2.2.2.2.2.1
 br (decide (v1 < v0))
 (req (zq523 v1 (lenL v5)) <|
 (geti v5 v1).bind fun p1 =>
 (zq677 p1 v3).bind fun y2 =>
 br y2.1
 (some (Sum.inl (((v1,()),()),(v2,(v3,()),v4,v5,v6,()))))
 (req (i64ok (v1 + 1)) <|
 rec (((),(),(v0,()),(v1 + 1,()),()),(v2,(v3,()),v4,v5,v6,()))))
 (some (Sum.inr (((),(v2,(v3,()),v4,v5,v6,())))))
abbrev lease_Live_slices_DeleteFunc___api_Lease_api_Lease__L5_A := ((Unit × Unit × (Int × Unit) × (Int × Unit) × Unit) × (List Ls × (Int × Unit) × List Ls × List Ls × Unit))
abbrev lease_Live_slices_DeleteFunc___api_Lease_api_Lease__L5_B := Option ((Unit × (Int × Unit) × Unit) × (List Ls × (Int × Unit) × List Ls × List Ls × Unit))
def zq683 (rec : lease_Live_slices_DeleteFunc___api_Lease_api_Lease__L5_A → lease_Live_slices_DeleteFunc___api_Lease_api_Lease__L5_B) (x : lease_Live_slices_DeleteFunc___api_Lease_api_Lease__L5_A) : lease_Live_slices_DeleteFunc___api_Lease_api_Lease__L5_B :=
 let v0 := x.1.2.2.1.1
 let v1 := x.1.2.2.2.1.1
 let v2 := x.2.1
 let v3 := x.2.2.1.1
 let v4 := x.2.2.2.1
 let v5 := x.2.2.2.2.1
 br (decide (v1 < lenL v5))
 (req (zq523 v1 (lenL v5)) <|
 (geti v5 v1).bind fun p1 =>
 (zq677 p1 v3).bind fun y2 =>
 br (!y2.1)
 (req (zq523 v0 (lenL v5)) <|
 (geti v5 v0).bind fun p3 =>
 req (i64ok (v0 + 1)) <|
 req (i64ok (v1 + 1)) <|
 rec (((),(),(v0 + 1,()),(v1 + 1,()),()),(v2,(v3,()),v4,seti v5 v0 p1,())))
 (req (i64ok (v1 + 1)) <|
 rec (((),(),(v0,()),(v1 + 1,()),()),(v2,(v3,()),v4,v5,()))))
 (some (((),(v0,()),()),(v2,(v3,()),v4,v5,())))
def zq695 (a0 : List Ls) (a1 : Int) : Option ((List Ls) × Unit) :=
 (zq1274 a0).bind fun y1 =>
 (loopN zq689 FUEL (((()),(()),(lenL y1.1,()),(0,()),()),(a0,(a1,()),([] : List Ls),y1.1,([] : List Ls),()))).bind fun y2 =>
 sumC y2 (fun y3 =>
 br (decide (y3.1.1.1 = (-1)))
 (some (y3.2.2.2.2.1,()))
 (req (i64ok (y3.1.1.1 + 1)) <|
 (loopN zq683 FUEL (((()),(()),(y3.1.1.1,()),(y3.1.1.1 + 1,()),()),(y3.2.1,(y3.2.2.1.1,()),y3.2.2.2.1,y3.2.2.2.2.1,()))).bind fun y4 =>
 req ((decide (0 ≤ y4.1.2.1.1)) && (decide (y4.1.2.1.1 ≤ lenL y4.2.2.2.2.1))) <|
 req ((decide (0 ≤ y4.1.2.1.1)) && (decide (y4.1.2.1.1 ≤ lenL (clrL y4.2.2.2.2.1 y4.1.2.1.1 (⟨(⟨false,0,0⟩ : Ad),(ByteArray.empty),0⟩ : Ls))))) <|
 some (subL (clrL y4.2.2.2.2.1 y4.1.2.1.1 (⟨(⟨false,0,0⟩ : Ad),(ByteArray.empty),0⟩ : Ls)) 0 y4.1.2.1.1,()))) (fun y5 =>
 some (y5.2.2.2.2.1,()))
def zq715 (a0 : Ls) (a1 : ByteArray) : Option (Bool × Unit) :=
 some (zq1477 .eql a0.who a1,())
abbrev slices_Index___api_Addr_api_Addr__L2_A := ((Unit × Unit × (Int × Unit) × (Int × Unit) × Unit) × (List Ad × (Ad × Unit) × Unit))
abbrev slices_Index___api_Addr_api_Addr__L2_B := Option ((((Int × Unit) × Unit) × (List Ad × Unit)) ⊕ (Unit × (List Ad × Unit)))
def zq1283 (rec : slices_Index___api_Addr_api_Addr__L2_A → slices_Index___api_Addr_api_Addr__L2_B) (x : slices_Index___api_Addr_api_Addr__L2_A) : slices_Index___api_Addr_api_Addr__L2_B :=
 let v0 := x.1.2.2.1.1
 let v1 := x.1.2.2.2.1.1
 let v2 := x.2.1
 let v3 := x.2.2.1.1
 br (decide (v1 < v0))
 (req (zq523 v1 (lenL v2)) <|
 (geti v2 v1).bind fun p1 =>
 br (eqAd v3 p1)
 (some (Sum.inl (((v1,()),()),(v2,()))))
 (req (i64ok (v1 + 1)) <|
 rec (((),(),(v0,()),(v1 + 1,()),()),(v2,(v3,()),()))))
 (some (Sum.inr (((),(v2,())))))
def zq1290 (a0 : List Ad) (a1 : Ad) : Option (Int × Unit) :=
 (loopN zq1283 FUEL (((()),(()),(lenL a0,()),(0,()),()),(a0,(a1,()),()))).bind fun y1 =>
 sumC y1 (fun y2 =>
 some (y2.1.1.1,())) (fun y3 =>
 some ((-1),()))
def zq1279 (a0 : List Ad) (a1 : Ad) : Option (Bool × Unit) :=
 (zq1290 a0 a1).bind fun y1 =>
 some (decide (y1.1 ≥ 0),())
def zq28 (a0 : Ls) (a1 : Ad) : Option (Bool × Unit) :=
 some (eqAd a0.ad a1,())
abbrev m_lease_book__taken_slices_ContainsFunc___api_Lease_api_Lease__slices_IndexFunc___api_Lease_api_Lease__L2_A := ((Unit × Unit × (Int × Unit) × (Int × Unit) × Unit) × ((Bool × Int × Int × Int × Unit) × List Ad × List Ls × (Ad × Unit) × Unit))
abbrev m_lease_book__taken_slices_ContainsFunc___api_Lease_api_Lease__slices_IndexFunc___api_Lease_api_Lease__L2_B := Option ((((Int × Unit) × Unit) × ((Bool × Int × Int × Int × Unit) × List Ad × List Ls × (Ad × Unit) × Unit)) ⊕ (Unit × ((Bool × Int × Int × Int × Unit) × List Ad × List Ls × (Ad × Unit) × Unit)))
def zq36 (rec : m_lease_book__taken_slices_ContainsFunc___api_Lease_api_Lease__slices_IndexFunc___api_Lease_api_Lease__L2_A → m_lease_book__taken_slices_ContainsFunc___api_Lease_api_Lease__slices_IndexFunc___api_Lease_api_Lease__L2_B) (x : m_lease_book__taken_slices_ContainsFunc___api_Lease_api_Lease__slices_IndexFunc___api_Lease_api_Lease__L2_A) : m_lease_book__taken_slices_ContainsFunc___api_Lease_api_Lease__slices_IndexFunc___api_Lease_api_Lease__L2_B :=
 let v0 := x.1.2.2.1.1
 let v1 := x.1.2.2.2.1.1
 let v2 := x.2.1.1
 let v3 := x.2.1.2.1
 let v4 := x.2.1.2.2.1
 let v5 := x.2.1.2.2.2.1
 let v6 := x.2.2.1
 let v7 := x.2.2.2.1
 let v8 := x.2.2.2.2.1.1
 br (decide (v1 < v0))
 (req (zq523 v1 (lenL v7)) <|
 (geti v7 v1).bind fun p1 =>
 (zq28 p1 v8).bind fun y2 =>
 br y2.1
 (some (Sum.inl (((v1,()),()),((v2,v3,v4,v5,()),v6,v7,(v8,()),()))))
 (req (i64ok (v1 + 1)) <|
 rec (((),(),(v0,()),(v1 + 1,()),()),((v2,v3,v4,v5,()),v6,v7,(v8,()),()))))
 (some (Sum.inr (((),((v2,v3,v4,v5,()),v6,v7,(v8,()),())))))
def zq42 (a0 : Pf) (a1 : List Ad) (a2 : List Ls) (a3 : Ad) : Option (Bool × Unit) :=
 (zq1279 a1 a3).bind fun y1 =>
 (br y1.1
 (some true)
 (((loopN zq36 FUEL (((()),(()),(lenL a2,()),(0,()),()),((a0.ad.v6,a0.ad.hi,a0.ad.lo,a0.bits,()),a1,a2,(a3,()),()))).bind fun y2 =>
 sumC y2 (fun y3 =>
 some (decide (y3.1.1.1 ≥ 0),())) (fun y4 =>
 some (false,()))).bind fun y5 =>
 some y5.1)).bind fun c2 =>
 some (c2,())
def zq720 (a0 : Ls) (a1 : Ls) : Option (Int × Unit) :=
 (zq107 a0.ad a1.ad).bind fun y1 =>
 some (y1.1,())
end Go.Ma
namespace Go.Ma
open Go
def zq573 (s sep : ByteArray) : Option (Int × Unit) := match sep.data.toList with | [c] => some (Lib.indexByte s.data.toList c,()) | _ => none
def zq1496 (s sep : ByteArray) : Option (List ByteArray × Unit) := req (Nat.ble s.size 1073741824 && Nat.beq sep.size 1) (some (Lib.splitB sep 0 (Lib.countB s sep) s,()))
def zq1007 (b : UInt8) : Bool := !(b == 43) && !(b == 45) && !(b == 95)
def zq1485 (n : Int) : Option (ByteArray × Unit) := req (decide (0 ≤ n) && decide (n < 1000000)) (some (⟨(Lib.decDigits n.toNat).toArray⟩,()))
def zq1493 (l : List ByteArray) (sep : ByteArray) : Option (ByteArray × Unit) :=
 req (Nat.ble l.length 1024 && Nat.ble (Lib.join (l.map (·.data.toList)) sep.data.toList).length 1099511627776) (some (⟨(Lib.join (l.map (·.data.toList)) sep.data.toList).toArray⟩,()))
def digN (s : ByteArray) : Int := match Lib.atoiAll s.data.toList with | .ok v => v | .range => Lib.atoiSat s.data.toList | _ => 0
def digB (s : ByteArray) : Bool := match Lib.atoiAll s.data.toList with | .ok v => decide (0 ≤ v) && (decide (s.size ≤ 4) && ((⟨(Lib.decDigits v.toNat).toArray⟩ : ByteArray) == s)) | _ => false
def zq1051 (s : ByteArray) : Option (Int × Bool × Unit) := req (Nat.ble s.size 1073741824) (some (digN s,digB s,()))
end Go.Ma
namespace Go.Ma
open Go
def lowQ (c : UInt8) : Int := bits .or .u8 (c.toNat : Int) 32
def hexv (c : UInt8) : Option Nat :=
 if 48 ≤ c.toNat ∧ c.toNat ≤ 57 then some (c.toNat - 48) else if 97 ≤ lowQ c ∧ lowQ c ≤ 102 then some ((lowQ c).toNat - 87) else none
def hexF : List UInt8 → Nat → Option Nat
 | [],a => some a
 | c :: r,a => match hexv c with
  | none => none
  | some d => if 4294967295 < a * 16 + d then none else hexF r (a * 16 + d)
inductive zq6 (et : TypeId) (l : List UInt8) (a : Nat) (u : Int) (ev : Value) : Prop
 | ok {n : Nat} (h : hexF l a = some n) (hu : u = n := by rfl) (he : ev = .nilIface := by rfl) : zq6 et l a u ev
 | bad (h : hexF l a = none) (he : ev = .iface et (.int .i64 2) ∨ ev = .iface et (.int .i64 1)) : zq6 et l a u ev
def hexU (s : ByteArray) : Option Nat := if s.size = 0 then none else hexF s.data.toList 0
def decU (s : ByteArray) : Option Nat := match Lib.parseUintB 32 s.data.toList with
 | .ok u => some u
 | _ => none
def numU (base : Int) (s : ByteArray) : Option Nat := if base = 10 then decU s else hexU s
def partF (s : ByteArray) (base digits most : Int) : Option Int :=
 if s.data.toList.all zq1007 = true then
  match numU base s with
  | none => none
  | some u => if digits < s.size ∨ most < u ∨ (base = 10 ∧ 1 < s.size ∧ s.data.toList.head? = some 48) then none else some (u : Int)
 else none
end Go.Ma
namespace Go.Ma
open Go
def zq1332 (s : ByteArray) (c : UInt8) : List ByteArray := Lib.splitB ⟨#[c]⟩ 0 (Lib.countB s ⟨#[c]⟩) s
def fourL : List ByteArray → Int → Option Int
 | [],n => some n
 | x :: r,n => match partF x 10 3 255 with
  | none => none
  | some u => fourL r (aop .or .u64 (aop .shl .u64 n 8) u)
def fourF (s : ByteArray) : Option Int := if (zq1332 s 46).length = 4 then fourL (zq1332 s 46) 0 else none
def dotIn (x : ByteArray) : Bool := decide (0 ≤ Lib.indexByte x.data.toList 46)
def someL (last : Bool) (len : Nat) : List ByteArray → Nat → List Int → Option (List Int)
 | [],_,out => some out
 | x :: r,i,out => if last = true ∧ i + 1 = len ∧ dotIn x = true then
   match fourF x with
   | none => none
   | some n => someL last len r (i + 1) (out ++ [n / 65536,aop .and .u64 n 65535])
  else
   match partF x 16 4 65535 with
   | none => none
   | some u => someL last len r (i + 1) (out ++ [u])
def someF (s : ByteArray) (last : Bool) : Option (List Int) := if s.size = 0 then some [] else someL last (zq1332 s 58).length (zq1332 s 58) 0 []
def packI : List Int → Int → Int
 | [],h => h
 | x :: r,h => packI r (aop .or .u64 (aop .shl .u64 h 16) x)
def packA (l : List Int) : Ad := ⟨true,packI (l.take 4) 0,packI ((l.drop 4).take 4) 0⟩
def cut1 (s : ByteArray) : ByteArray := ⟨(Lib.cut s.data.toList [58,58]).1.toArray⟩
def cut2 (s : ByteArray) : ByteArray := ⟨(Lib.cut s.data.toList [58,58]).2.1.toArray⟩
def cut3 (s : ByteArray) : Bool := (Lib.cut s.data.toList [58,58]).2.2
def zq1255 (s : ByteArray) : Option Ad :=
 if cut3 s = true then
  match someF (cut1 s) false with
  | none => none
  | some l => match someF (cut2 s) true with
   | none => none
   | some m => if 7 < l.length + m.length then none else some (packA (l ++ List.replicate (8 - l.length - m.length) 0 ++ m))
 else match someF s true with
  | none => none
  | some l => if l.length = 8 then some (packA l) else none
end Go.Ma
namespace Go.Ma
open Go
def hexD (d : Nat) : UInt8 := if d < 10 then UInt8.ofNat (48 + d) else UInt8.ofNat (87 + d)
def hex4 (n : Nat) : List UInt8 :=
 if n < 16 then [hexD n] else if n < 256 then [hexD (n / 16),hexD (n % 16)] else if n < 4096 then [hexD (n / 256),hexD (n / 16 % 16),hexD (n % 16)] else [hexD (n / 4096),hexD (n / 256 % 16),hexD (n / 16 % 16),hexD (n % 16)]
def dec3 (n : Nat) : List UInt8 :=
 if n < 10 then [UInt8.ofNat (48 + n)] else if n < 100 then [UInt8.ofNat (48 + n / 10),UInt8.ofNat (48 + n % 10)] else [UInt8.ofNat (48 + n / 100),UInt8.ofNat (48 + n / 10 % 10),UInt8.ofNat (48 + n % 10)]
theorem zq506 (u : Nat) (h : 16 ≤ u) (h2 : u < 65536) : hex4 u = hex4 (u / 16) ++ [hexD (u % 16)] := by
 unfold hex4
 rw [if_neg (by omega : ¬ u < 16)]
 by_cases h3 : u < 256
 ·rw [if_pos h3,if_pos (by omega)]; rfl
 ·rw [if_neg h3,if_neg (by omega : ¬ u / 16 < 16)]
  by_cases h4 : u < 4096
  ·rw [if_pos h4,if_pos (by omega),show u / 16 / 16 = u / 256 by omega]; rfl
  ·rw [if_neg h4,if_neg (by omega),if_pos (by omega),show u / 16 / 256 = u / 4096 by omega,show u / 16 / 16 % 16 = u / 256 % 16 by omega]; rfl
theorem zq312 (n : Nat) (h : n < 1000) : Lib.decDigits n = dec3 n := by
 unfold dec3
 by_cases h1 : n < 10
 ·rw [if_pos h1,Lib.decDigits,dif_pos h1]
 ·rw [if_neg h1,Lib.decDigits,dif_neg h1]
  by_cases h2 : n < 100
  ·rw [if_pos h2,Lib.decDigits,dif_pos (by omega)]; rfl
  ·rw [if_neg h2,Lib.decDigits,dif_neg (by omega),Lib.decDigits,dif_pos (by omega),show n / 10 / 10 = n / 100 by omega]; rfl
def zq1482 (n b : Int) : Option (ByteArray × Unit) :=
 if b = 16 then req (decide (0 ≤ n) && decide (n < 65536)) (some (⟨(hex4 n.toNat).toArray⟩,()))
 else req (decide (b = 10) && (decide (0 ≤ n) && decide (n < 256))) (some (⟨(dec3 n.toNat).toArray⟩,()))
end Go.Ma
namespace Go.Ma
open Go
def zq293 (s : ByteArray) : Bool := decide (0 ≤ Lib.indexByte s.data.toList 58)
def toldF (s : ByteArray) : Option Ad := if zq293 s = true then zq1255 s else (fourF s).map fun u => ⟨false,0,u⟩
def toldA (s : ByteArray) : Ad := match toldF s with | some a => a | none => ⟨false,0,0⟩
def zq155 (s : ByteArray) : Option (Ad × Bool × Unit) := req (Nat.ble s.size 4294967200) (some (toldA s,(toldF s).isSome,()))
end Go.Ma
namespace Go.Ma
open Go Go.RowKit
def zq407 (rec : TypeId → List Value → Bool) (T : Nat → TI) : List (Nat × TypeId) → Nat → List Value → Bool
 | [],_,z => z.isEmpty
 | (o,ft) :: r,off,z => (o == off) && decide ((T ft).size ≤ z.length) && rec ft (z.take (T ft).size) && zq407 rec T r (off + (T ft).size) (z.drop (T ft).size)
def zq1241 (P : Program) (T : Nat → TI) : Nat → TypeId → List Value → Bool
 | 0,_,_ => false
 | d + 1,t,z => (T t).known && match (T t).kind,z with
  | .bool,[.bool _] => !(T t).agg
  | .int _,[.int _ _] => !(T t).agg
  | .str,[.string _] => !(T t).agg
  | .struct, z => (T t).agg && !P.stoodInHeld t && (P.fieldsOf t).toList.all (fun f => f.name != "_") && zq407 (zq1241 P T d) T (T t).fields 0 z
  | _,_ => false
def valL (ti : TI) (xs : List Value) : Value := if ti.agg then .agg xs.toArray else xs.headD Go.undef
theorem zq1616 : ∀ (z xs : List Value),zq1615 z xs = true → xs.length = z.length
 | [],xs,h => by rw [zq1613 h]
 | v :: r,[],h => by cases v <;> simp [zq1615] at h
 | v :: r,x :: r',h => by
  have h' : zq1615 r r' = true := by cases v <;> cases x <;> simp_all [zq1615]
  simp [zq1616 r r' h']
theorem zq1617 : ∀ {z xs : List Value} (n : Nat),zq1615 z xs = true → zq1615 (z.take n) (xs.take n) = true ∧ zq1615 (z.drop n) (xs.drop n) = true
 | _,_,0,h => ⟨by simp [zq1615],by simpa using h⟩
 | [],xs,n + 1,h => by rw [zq1613 h]; exact ⟨by simp [zq1615],by simp [zq1615]⟩
 | v :: r,xs,n + 1,h => by
  cases xs with
  | nil => cases v <;> simp [zq1615] at h
  | cons x r' =>
   cases v <;> cases x <;> simp only [zq1615,zc16,zc4] at h
   ·have := zq1617 n h
    exact ⟨by simpa [zq1615] using this.1,by simpa using this.2⟩
   ·have := zq1617 n h.2
    exact ⟨by simpa [zq1615,h.1] using this.1,by simpa using this.2⟩
   ·have := zq1617 n h
    exact ⟨by simpa [zq1615] using this.1,by simpa using this.2⟩
theorem zq1610 : ∀ (n : Nat) {z xs ys : List Value},zq1615 z xs = true → zq1615 z ys = true → veqL xs ys = (veqL (xs.take n) (ys.take n) && veqL (xs.drop n) (ys.drop n))
 | 0,_,_,_,_,_ => by simp [veqL]
 | n + 1,[],xs,ys,h,h' => by rw [zq1613 h,zq1613 h']; rfl
 | n + 1,v :: r,xs,ys,h,h' => by
  cases xs with
  | nil => cases v <;> simp [zq1615] at h
  | cons x rx =>
   cases ys with
   | nil => cases v <;> simp [zq1615] at h'
   | cons y ry =>
    cases v <;> cases x <;> simp only [zq1615,zc16,zc4] at h <;> cases y <;> simp only [zq1615,zc16,zc4] at h'
    ·simp [veqL,zq1610 n h h',Bool.and_assoc]
    ·simp [veqL,zq1610 n h.2 h'.2,Bool.and_assoc]
    ·simp [veqL,zq1610 n h h',Bool.and_assoc]
section
variable {P : Program} {T : Nat → TI} (hT : ∀ t,(T t).known = true → zq20 P t (T t))
include hT
theorem zq1221 {ft : TypeId} (hk : (T ft).known = true) (XS : List Value) (off : Nat) (h1 : (T ft).agg = false → ∃ v,((XS.drop off).take (T ft).size) = [v] ∧ (T ft).size = 1) (w : World) :
  (part ft XS.toArray off).run P w = .ok (valL (T ft) ((XS.drop off).take (T ft).size)) w := by
 simp only [part,Sem.run_bind,(hT ft hk).isAgg,Result.andThen_ok,valL]
 cases hagg : (T ft).agg
 ·obtain ⟨v,hv,hs⟩ := h1 hagg
  simp only [zc16,if_false,hv,List.headD_cons]
  rw [hs] at hv
  have : XS[off]? = some v := by
   have := congrArg (fun l => l[0]?) hv
   simpa using this
  simp [this]
 ·simp only [if_true,Sem.run_bind,(hT ft hk).sizeOf,Result.andThen_ok,Sem.run_pure]
  congr 2
  apply Array.ext'
  simp [Array.toList_extract,List.extract_eq_drop_take']
theorem zq394 {d k : Nat} (rec : ∀ t z,zq1241 P T d t z = true → ∀ (xs ys : List Value) (w : World),zq1615 z xs = true → zq1615 z ys = true → (Op.equalIn (d + k) t (valL (T t) xs) (valL (T t) ys)).run P w = .ok (veqL xs ys) w)
  (XS YS : List Value) : ∀ (fs : List Field) (off : Nat) (z : List Value) (w : World), fs.all (fun f => f.name != "_") = true → zq407 (zq1241 P T d) T (fs.map fun f => (f.offset, f.type)) off z = true →
   zq1615 z (XS.drop off) = true → zq1615 z (YS.drop off) = true → (Op.eqFields (d + k) XS.toArray YS.toArray fs).run P w = .ok (veqL (XS.drop off) (YS.drop off)) w
 | [],off,z,w,_,hf,hx,hy => by
  simp only [List.map_nil,zq407,List.isEmpty_iff] at hf
  subst hf
  rw [zq1613 hx,zq1613 hy]
  simp [Op.eqFields,veqL]
 | f :: r,off,z,w,hn,hf,hx,hy => by
  simp only [List.map_cons,zq407,zc4,beq_iff_eq,decide_eq_true_eq] at hf
  obtain ⟨⟨⟨rfl,hsz⟩,hsh⟩,hrest⟩ := hf
  simp only [List.all_cons,zc4,bne_iff_ne,ne_eq] at hn
  have hk : (T f.type).known = true := by
   cases d with
   | zero => simp [zq1241] at hsh
   | succ d => simp only [zq1241,zc4] at hsh; exact hsh.1
  obtain ⟨x1,x2⟩ := zq1617 (T f.type).size hx
  obtain ⟨y1,y2⟩ := zq1617 (T f.type).size hy
  have one : (T f.type).agg = false → (z.take (T f.type).size).length = 1 := by
   intro ha
   cases d with
   | zero => simp [zq1241] at hsh
   | succ d =>
    simp only [zq1241,zc4] at hsh
    have h2 := hsh.2
    split at h2
    ·rename_i h; rw [h]; rfl
    ·rename_i h; rw [h]; rfl
    ·rename_i h; rw [h]; rfl
    ·simp [ha] at h2
    ·cases h2
  have single : ∀ {l : List Value},zq1615 (z.take (T f.type).size) l = true → (T f.type).agg = false → ∃ v,l = [v] ∧ (T f.type).size = 1 := by
   intro l hl ha
   have h1 := zq1616 _ _ hl
   have h2 := one ha
   rw [h2] at h1
   match l,h1 with
   | [v],_ => exact ⟨v,rfl,by rw [zc20] at h2; omega⟩
  have px := zq1221 hT hk XS f.offset (single x1) w
  have py := zq1221 hT hk YS f.offset (single y1) w
  have hr := rec f.type _ hsh _ _ w x1 y1
  have ih := zq394 rec XS YS r (f.offset + (T f.type).size) _ w hn.2 hrest (by rw [← List.drop_drop]; exact x2) (by rw [← List.drop_drop]; exact y2)
  rw [← List.drop_drop,← List.drop_drop] at ih
  simp only [Op.eqFields,if_pos hn.1,Sem.run_bind,px,py,hr,Result.andThen_ok]
  rw [zq1610 (T f.type).size hx hy]
  cases hv : veqL (List.take (T f.type).size (List.drop f.offset XS)) (List.take (T f.type).size (List.drop f.offset YS))
  ·simp
  ·simpa using ih
theorem zq395 : ∀ (d k : Nat) (t : TypeId) (z : List Value),zq1241 P T d t z = true → ∀ (xs ys : List Value) (w : World),zq1615 z xs = true → zq1615 z ys = true →
  (Op.equalIn (d + k) t (valL (T t) xs) (valL (T t) ys)).run P w = .ok (veqL xs ys) w
 | 0,_,_,_,h,_,_,_,_,_ => by simp [zq1241] at h
 | d + 1,k,t,z,h,xs,ys,w,hx,hy => by
  simp only [zq1241,zc4] at h
  obtain ⟨hk,h⟩ := h
  obtain ⟨ti,ds,z0,hti,hd,hz,g1,g2,g3,g4,g5,g6,g7,g8,_⟩ := (hT t hk).ex
  have e : d + 1 + k = (d + k) + 1 := by omega
  rw [e]
  split at h
  ·rename_i hkd
   have := g5 hkd; subst this
   obtain ⟨a,r,rfl,hr⟩ := zq1611 hx
   obtain ⟨b,r',rfl,hr'⟩ := zq1611 hy
   rw [zq1613 hr,zq1613 hr']
   have ha : (T t).agg = false := by simpa using h
   simp only [valL,ha,zc16,if_false,List.headD_cons]
   rw [run_equalIn_bool' _ _ _ _ _ hd]
   simp [veqL]
  ·rename_i k0 _ _ hkd
   have := g4 _ hkd; subst this
   obtain ⟨a,r,rfl,hr⟩ := zq1612 hx
   obtain ⟨b,r',rfl,hr'⟩ := zq1612 hy
   rw [zq1613 hr,zq1613 hr']
   have ha : (T t).agg = false := by simpa using h
   simp only [valL,ha,zc16,if_false,List.headD_cons]
   rw [run_equalIn_int _ _ _ _ _ _ _ hd]
   simp [veqL]
  ·rename_i hkd
   have := g6 hkd; subst this
   obtain ⟨a,r,rfl,hr⟩ := zq1614 hx
   obtain ⟨b,r',rfl,hr'⟩ := zq1614 hy
   rw [zq1613 hr,zq1613 hr']
   have ha : (T t).agg = false := by simpa using h
   simp only [valL,ha,zc16,if_false,List.headD_cons]
   rw [run_equalIn_string _ _ _ _ _ hd]
   simp [veqL]
  ·rename_i hkd
   simp only [zc4,Bool.not_eq_true'] at h
   obtain ⟨⟨⟨ha,hst⟩,hnm⟩,hf⟩ := h
   obtain ⟨fs,rfl,hfs⟩ := g8 hkd
   have hfo : P.fieldsOf t = fs := by simp [Program.fieldsOf,hd]
   simp only [valL,ha,if_true]
   rw [run_equalIn_struct _ _ _ _ _ (by rw [hfo]; exact hd) hst,hfo]
   rw [hfo] at hnm
   rw [hfs] at hf
   have := zq394 hT (d := d) (k := k) (fun t z h => zq395 d k t z h) xs ys fs.toList 0 _ w hnm hf (by simpa using hx) (by simpa using hy)
   simpa using this
  ·cases h
theorem zq1497 (t : TypeId) (z : List Value) (h : zq1241 P T 8 t z = true) (hg : P.eqGuardType P.depth t = false) (ha : (T t).agg = true) : zq16 P t z := by
 intro xs ys x y w hx hy
 have h1 : (Op.equal t (.agg xs.toArray) (.agg ys.toArray)).run P w = .ok (veqL xs ys) w := by
  have := zq395 hT 8 9992 t z h xs ys w hx hy
  simp only [valL,ha,if_true] at this
  exact this
 constructor
 ·simp [eqGuard,binOp,hg,h1]
 ·simp [eqGuard,binOp,hg,h1]
end
end Go.Ma
namespace Go.Ma
open Go
section
variable {X Y : Type}
theorem br_ss (c : Bool) (x y : X) : br c (some x) (some y) = some (bif c then x else y) := by cases c <;> rfl
theorem br_sb (c x y : Bool) : br c (some x) (some y) = some (bif c then x else y) := br_ss c x y
theorem zq235 (a b : Option X) : br true a b = a := rfl
theorem zq233 (a b : Option X) : br false a b = b := rfl
theorem zq1189 (a : Option X) : req true a = a := rfl
theorem zq1187 {c : Bool} (h : c = true) (a : Option X) : req c a = a := by rw [h]; rfl
theorem zq231 (a : Option X) : both a a = a := by unfold both; exact if_pos rfl
theorem zq370 (n : Nat) (a : Option X) : dup n a = a := by
 induction n with
 | zero => rfl
 | succ n ih => rw [dup,ih,zq231]
theorem zq220 (x : X) (f : X → Option Y) : (some x).bind f = f x := rfl
end
def betw (x a b : Int) : Bool := decide (a ≤ x) && decide (x ≤ b)
theorem zq218 {x a b : Int} : betw x a b = true ↔ a ≤ x ∧ x ≤ b := by simp [betw]
theorem zq217 (x a b : Int) : (bif decide (x ≥ a) then decide (x ≤ b) else false) = betw x a b := by
 unfold betw
 cases decide (x ≥ a) <;> rfl
theorem zq519 {x : Int} (h : -9223372036854775808 ≤ x) (h' : x < 9223372036854775808) : i64ok x = true := zq518.2 ⟨h,h'⟩
theorem zq525 {i n : Int} (h : 0 ≤ i) (h' : i < n) : zq523 i n = true := by simp [zq523,h,h']
theorem zq1201 {a b : Int} (h0 : 0 ≤ a) (h1 : 0 ≤ b) (h : a + b ≤ 274877906944) : room a b = true := by
 unfold room
 rw [Nat.ble_eq]
 omega
section
variable {α : Type}
theorem zq765 (l : List α) : 0 ≤ lenL l := by unfold lenL; omega
theorem zq764 (a : α) (l : List α) : lenL (a :: l) = lenL l + 1 := by simp [lenL]
theorem zq472 (l : List α) (i : Nat) : geti l (i : Int) = l[i]? := by
 unfold geti
 rw [if_pos (by omega)]
 rfl
theorem zq471 {l : List α} {i : Nat} {a : α} (h : l[i]? = some a) : geti l (i : Int) = some a := (zq472 l i).trans h
end
theorem zq789 {α Y : Type} (step : (α → Option Y) → α → Option Y) (n : Nat) (x : α) : loopN step (n + 1) x = step (loopN step n) x := rfl
theorem zq792 {α Y : Type} {step : (α → Option Y) → α → Option Y} (mk : Nat → α) (n : Nat) (f : Nat → Option Y)
  (h : ∀ (rec : α → Option Y) i,i < n → rec (mk (i + 1)) = f (i + 1) → step rec (mk i) = f i) (hend : ∀ rec,step rec (mk n) = f n) : ∀ (N i : Nat),i ≤ n → n - i < N → loopN step N (mk i) = f i := by
 intro N
 induction N with
 | zero => intro i _ hx; omega
 | succ N ih =>
  intro i hi hx
  rw [zq789]
  by_cases he : i = n
  ·subst he; exact hend _
  ·exact h _ i (by omega) (ih (i + 1) (by omega) (by omega))
theorem zq793 {α Y : Type} {step : (α → Option Y) → α → Option Y} (mk : Nat → α) (n : Nat) (f : Nat → Option Y) (I : Nat → Prop)
  (h : ∀ (rec : α → Option Y) i,i < n → I i → (I (i + 1) → rec (mk (i + 1)) = f (i + 1)) → step rec (mk i) = f i) (hend : ∀ rec,I n → step rec (mk n) = f n) : ∀ (N i : Nat),i ≤ n → I i → n - i < N → loopN step N (mk i) = f i := by
 intro N
 induction N with
 | zero => intro i _ _ hx; omega
 | succ N ih =>
  intro i hi hI hx
  rw [zq789]
  by_cases he : i = n
  ·subst he; exact hend _ hI
  ·exact h _ i (by omega) hI fun hI' => ih (i + 1) (by omega) hI' (by omega)
theorem zq463 {n : Nat} (h : n < 18446744073709551616) : n < FUEL := by unfold FUEL; exact h
theorem zq1568 (b : ByteArray) (i : Nat) (r : List UInt8) : ByteArray.toList.loop b i r = r.reverse ++ b.data.toList.drop i := by
 rw [ByteArray.toList.loop]
 split
 ·rename_i h
  rw [zq1568 b (i + 1)]
  have h' : i < b.data.toList.length := by simpa using h
  rw [List.drop_eq_getElem_cons h',List.reverse_cons,zc48]
  have e : b.get! i = b.data.toList[i] := by
   simp only [ByteArray.get!,Array.getElem_toList]
   exact getElem!_pos b.data i (by simpa using h)
  rw [e]
  rfl
 ·rename_i h
  rw [zc18 (by simpa using h),List.append_nil]
 termination_by b.size - i
theorem zq1567 (b : ByteArray) : b.toList = b.data.toList := by
 rw [ByteArray.toList,zq1568]; rfl
theorem zq216 (x y : ByteArray) : (x.toList == y.toList) = decide (x = y) := by
 have e : (x.toList = y.toList) = (x = y) := by
  rw [zq1567,zq1567]
  refine propext ⟨fun h => ByteArray.ext (Array.toList_inj.1 h),fun h => by rw [h]⟩
 simp only [← e]
 exact Bool.eq_iff_iff.2 (by simp)
theorem zq1478 (x y : ByteArray) : zq1477 .eql x y = decide (x = y) := zq216 x y
theorem zq1479 (x y : ByteArray) : zq1477 .neq x y = !decide (x = y) := by
 show (!(x.toList == y.toList)) = _
 rw [zq216]
theorem zq808 {n : Nat} (h : n ≤ maxLen) : n < 9223372036854775808 := Nat.lt_of_le_of_lt h (by unfold maxLen; decide)
theorem zq241 {s : ByteArray} {i : Nat} {b : UInt8} (h : s.data.toList[i]? = some b) : zq240 s (i : Int) = (b.toNat : Int) := by
 have h' : s[i]? = some b := by
  rw [Array.getElem?_toList] at h
  obtain ⟨hl,he⟩ := Array.getElem?_eq_some_iff.1 h
  rw [getElem?_pos s i hl]
  exact congrArg some he
 unfold zq240
 simp only [zc42]
 rw [h']
theorem zq309 (s : ByteArray) : s.data.toList.length = s.size := by simp
theorem zq367 {α : Type} (p : α → Bool) {l : List α} {i : Nat} {a : α} (h : l[i]? = some a) : (l.drop i).all p = (p a && (l.drop (i + 1)).all p) := by
 obtain ⟨hl,he⟩ := zc1.1 h
 rw [List.drop_eq_getElem_cons hl,he,List.all_cons]
theorem zq368 {α : Type} {l : List α} {i : Nat} {a : α} (h : l[i]? = some a) : l.drop i = a :: l.drop (i + 1) := by
 obtain ⟨hl,he⟩ := zc1.1 h
 rw [List.drop_eq_getElem_cons hl,he]
end Go.Ma
namespace Go.Ma
open Go
def Ad.wf (a : Ad) : Prop := 0 ≤ a.hi ∧ a.hi < 18446744073709551616 ∧ 0 ≤ a.lo ∧ a.lo < 18446744073709551616
theorem Ad.In.wf {a : Ad} (h : a.In) : a.wf := ⟨h.1.1,h.1.2,h.2.1,h.2.2⟩
def chkA (a : Ad) : Int := if a.v6 = false ∧ (a.hi ≠ 0 ∨ 4294967296 ≤ a.lo) then 3 else 0
def wid (v6 : Bool) : Nat := if v6 then 128 else 32
def Ad.num (a : Ad) : Nat := a.hi.toNat * 18446744073709551616 + a.lo.toNat
def ofNum (v6 : Bool) (n : Nat) : Ad := ⟨v6,(n / 18446744073709551616 : Nat),(n % 18446744073709551616 : Nat)⟩
def Ad.right (a : Ad) : Prop := a.wf ∧ chkA a = 0
theorem wrap_i64 {n : Int} (h : -9223372036854775808 ≤ n) (h' : n < 9223372036854775808) : IntKind.i64.wrap n = n := IntWalk.i64_in n (by omega)
theorem wrap_u64 {n : Int} (h : 0 ≤ n) (h' : n < 18446744073709551616) : IntKind.u64.wrap n = n := by
 simp only [IntKind.wrap,IntKind.bits,IntKind.signed,Bool.false_and]
 simp
 omega
theorem zq1638 (n : Int) : IntKind.u64.wrap n = n % 18446744073709551616 := by
 simp only [IntKind.wrap,IntKind.bits,IntKind.signed,Bool.false_and]
 simp
theorem zq1199 (a : Ad) (h : a.right) : a.num < 2 ^ wid a.v6 := by
 obtain ⟨⟨h1,h2,h3,h4⟩,hc⟩ := h
 unfold chkA at hc
 unfold Ad.num wid
 cases hv : a.v6
 ·simp only [hv] at hc ⊢
  split at hc
  ·cases hc
  ·rename_i hn
   simp only [zc16,if_false]
   simp only [true_and,not_or,zc51] at hn
   omega
 ·simp only [if_true]
  omega
theorem zq882 (a : Ad) (h : a.wf) : ofNum a.v6 a.num = a := by
 obtain ⟨h1,h2,h3,h4⟩ := h
 unfold ofNum Ad.num
 cases a with
 | mk v hi lo =>
  simp only at h1 h2 h3 h4
  simp only [Ad.mk.injEq,true_and]
  constructor <;> omega
theorem zq866 (v6 : Bool) (n : Nat) : (ofNum v6 n).num = n := by
 unfold ofNum Ad.num
 simp only [zc42]
 omega
theorem zq864 {a b : Ad} (ha : a.wf) (hb : b.wf) (hv : a.v6 = b.v6) (h : a.num = b.num) : a = b := by
 rw [← zq882 a ha,← zq882 b hb,hv,h]
theorem zq1032 {r : Nat} (h : 64 ≤ r) : 2 ^ r = 2 ^ (r - 64) * 18446744073709551616 := by
 have : r = (r - 64) + 64 := by omega
 rw [this,Nat.pow_add]
 simp
theorem zq1031 {r : Nat} (h : r < 64) : 2 ^ r ≤ 9223372036854775808 := by
 have := Nat.pow_le_pow_right (n := 2) (by omega) (show r ≤ 63 by omega)
 simpa using this
theorem zq816 {r : Nat} (h : r < 64) : (2 ^ r - 1) / 18446744073709551616 = 0 ∧ (2 ^ r - 1) % 18446744073709551616 = 2 ^ r - 1 := by
 have := zq1031 h
 constructor <;> omega
theorem zq813 {r : Nat} (h : 64 ≤ r) : (2 ^ r - 1) / 18446744073709551616 = 2 ^ (r - 64) - 1 ∧ (2 ^ r - 1) % 18446744073709551616 = 18446744073709551615 := by
 have h1 := zq1032 h
 have h2 := Nat.two_pow_pos (r - 64)
 generalize 2 ^ (r - 64) = q at h1 h2 ⊢
 rw [h1]
 constructor <;> omega
theorem zq1244 {r : Nat} (h : r < 64) : aop .sub .u64 (aop .shl .u64 1 (r : Int)) 1 = ((2 ^ r - 1 : Nat) : Int) := by
 have h1 := zq1031 h
 have h2 := Nat.two_pow_pos r
 have e1 : aop .shl .u64 1 (r : Int) = ((2 ^ r : Nat) : Int) := by
  simp only [aop,IntKind.bits,zc42,Nat.min_eq_left (show r ≤ 64 by omega)]
  rw [zq1638]
  have hc : (2 : Int) ^ r = ((2 ^ r : Nat) : Int) := by push_cast; rfl
  rw [Int.one_mul,hc]
  generalize 2 ^ r = q at h1 h2 ⊢
  omega
 rw [e1]
 simp only [aop]
 rw [wrap_u64 (by omega) (by omega)]
 omega
def cutN (n k : Nat) : Nat := n / 2 ^ k * 2 ^ k
theorem zq175 (x : Nat) (k : Nat) (hx : x < 18446744073709551616) (hk : k ≤ 64) : aop .andNot .u64 (x : Int) ((2 ^ k - 1 : Nat) : Int) = ((x / 2 ^ k * 2 ^ k : Nat) : Int) := by
 have hp : 2 ^ k ≤ 18446744073709551616 := by
  have := Nat.pow_le_pow_right (n := 2) (by omega) hk
  simpa using this
 have hpos := Nat.two_pow_pos k
 have e1 : (BitVec.ofInt 64 (x : Int)).toNat = x := by
  rw [BitVec.ofInt_natCast,BitVec.toNat_ofNat]
  exact Nat.mod_eq_of_lt (by simpa using hx)
 have e2 : (BitVec.ofInt 64 ((2 ^ k - 1 : Nat) : Int)).toNat = 2 ^ k - 1 := by
  rw [BitVec.ofInt_natCast,BitVec.toNat_ofNat]
  exact Nat.mod_eq_of_lt (by simp only [Nat.reducePow]; omega)
 have e3 : (BitVec.ofInt 64 (x : Int) &&& ~~~ BitVec.ofInt 64 ((2 ^ k - 1 : Nat) : Int)).toNat = x / 2 ^ k * 2 ^ k := by
  rw [BitVec.toNat_and,BitVec.toNat_not,e1,e2]
  apply Nat.eq_of_testBit_eq
  intro i
  rw [Nat.testBit_and,show 2 ^ 64 - 1 - (2 ^ k - 1) = 2 ^ 64 - ((2 ^ k - 1) + 1) by omega,Nat.testBit_two_pow_sub_succ (by simp only [Nat.reducePow]; omega),Nat.testBit_two_pow_sub_one,Nat.testBit_mul_two_pow,Nat.testBit_div_two_pow]
  by_cases hi : k ≤ i
  ·rw [Nat.sub_add_cancel hi]
   by_cases h64 : i < 64
   ·simp [hi,h64,Nat.not_lt.2 hi]
   ·have : x.testBit i = false := Nat.testBit_lt_two_pow (Nat.lt_of_lt_of_le (by simpa using hx : x < 2 ^ 64) (Nat.pow_le_pow_right (by omega) (by omega)))
    simp [this]
  ·simp [hi,Nat.lt_of_not_le hi]
 simp only [aop]
 show IntKind.u64.wrap ((BitVec.ofInt 64 (x : Int) &&& ~~~ BitVec.ofInt 64 ((2 ^ k - 1 : Nat) : Int)).toNat : Int) = _
 rw [e3]
 have : x / 2 ^ k * 2 ^ k ≤ x := Nat.div_mul_le_self x _
 exact wrap_u64 (by omega) (by omega)
theorem zq815 (k : Nat) : (2 ^ k - 1) / 18446744073709551616 = 2 ^ (k - 64) - 1 ∧ (2 ^ k - 1) % 18446744073709551616 = 2 ^ (min k 64) - 1 := by
 by_cases h : k < 64
 ·obtain ⟨h1,h2⟩ := zq816 h
  rw [show k - 64 = 0 by omega,Nat.min_eq_left (by omega)]
  exact ⟨h1,h2⟩
 ·obtain ⟨h1,h2⟩ := zq813 (r := k) (by omega)
  rw [Nat.min_eq_right (by omega)]
  exact ⟨h1,h2⟩
theorem zq307 (Q hi lo k : Nat) (hQ : Q = 2 ^ 64) (hlo : lo < Q) : (hi * Q + lo) / 2 ^ k * 2 ^ k = (hi / 2 ^ (k - 64) * 2 ^ (k - 64)) * Q + lo / 2 ^ (min k 64) * 2 ^ (min k 64) := by
 by_cases h : k ≤ 64
 ·have e0 : k - 64 = 0 := by omega
  rw [e0,Nat.min_eq_left h]
  have e : Q = 2 ^ k * 2 ^ (64 - k) := by
   rw [hQ,← Nat.pow_add,show k + (64 - k) = 64 by omega]
  have hpos := Nat.two_pow_pos k
  have e2 : hi * Q + lo = 2 ^ k * (hi * 2 ^ (64 - k)) + lo := by rw [e,Nat.mul_left_comm]
  rw [e2,Nat.mul_add_div hpos,Nat.add_mul,Nat.pow_zero,Nat.div_one,Nat.mul_one,e]
  have e3 : hi * 2 ^ (64 - k) * 2 ^ k = hi * (2 ^ k * 2 ^ (64 - k)) := by rw [Nat.mul_assoc,Nat.mul_comm (2 ^ (64 - k))]
  rw [e3]
 ·have e : 2 ^ k = 2 ^ (k - 64) * Q := by
   rw [hQ,← Nat.pow_add,show k - 64 + 64 = k by omega]
  have hpos := Nat.two_pow_pos (k - 64)
  have hQ0 : 0 < Q := by omega
  rw [Nat.min_eq_right (by omega),← hQ,e,Nat.mul_comm (2 ^ (k - 64)) Q,← Nat.div_div_eq_div_mul]
  have e1 : (hi * Q + lo) / Q = hi := by rw [Nat.mul_comm,Nat.mul_add_div hQ0,Nat.div_eq_of_lt hlo,Nat.add_zero]
  rw [e1,Nat.div_eq_of_lt hlo,Nat.zero_mul,Nat.add_zero,Nat.mul_comm Q,Nat.mul_assoc]
theorem zq306 (hi lo k : Nat) (hlo : lo < 18446744073709551616) : cutN (hi * 18446744073709551616 + lo) k = (hi / 2 ^ (k - 64) * 2 ^ (k - 64)) * 18446744073709551616 + lo / 2 ^ (min k 64) * 2 ^ (min k 64) :=
 zq307 18446744073709551616 hi lo k (by decide) hlo
def cutA (a : Ad) (bits : Int) : Ad := ofNum a.v6 (cutN a.num (wid a.v6 - bits.toNat))
def maskA (v6 : Bool) (bits : Int) : Ad := ofNum v6 (2 ^ (wid v6 - bits.toNat) - 1)
theorem zq301 (a : Ad) (h : a.wf) (bits : Int) : cutA a bits =
  ⟨a.v6,((a.hi.toNat / 2 ^ (wid a.v6 - bits.toNat - 64) * 2 ^ (wid a.v6 - bits.toNat - 64) : Nat) : Int),((a.lo.toNat / 2 ^ (min (wid a.v6 - bits.toNat) 64) * 2 ^ (min (wid a.v6 - bits.toNat) 64) : Nat) : Int)⟩ := by
 obtain ⟨h1,h2,h3,h4⟩ := h
 unfold cutA Ad.num
 rw [zq306 _ _ _ (by omega)]
 have hlt : a.lo.toNat / 2 ^ (min (wid a.v6 - bits.toNat) 64) * 2 ^ (min (wid a.v6 - bits.toNat) 64) < 18446744073709551616 := Nat.lt_of_le_of_lt (Nat.div_mul_le_self _ _) (by omega)
 generalize a.lo.toNat / 2 ^ (min (wid a.v6 - bits.toNat) 64) * 2 ^ (min (wid a.v6 - bits.toNat) 64) = lo at hlt ⊢
 generalize a.hi.toNat / 2 ^ (wid a.v6 - bits.toNat - 64) * 2 ^ (wid a.v6 - bits.toNat - 64) = hi
 unfold ofNum
 simp only [Ad.mk.injEq,true_and]
 constructor <;> omega
theorem zq812 (v6 : Bool) (bits : Int) : maskA v6 bits = ⟨v6,((2 ^ (wid v6 - bits.toNat - 64) - 1 : Nat) : Int),((2 ^ (min (wid v6 - bits.toNat) 64) - 1 : Nat) : Int)⟩ := by
 unfold maskA ofNum
 rw [(zq815 _).1,(zq815 _).2]
def chkP (p : Pf) : Int :=
 if chkA p.ad ≠ 0 then chkA p.ad else if p.bits < 0 ∨ p.bits > wid p.ad.v6 then 3 else if cutA p.ad p.bits ≠ p.ad then 4 else 0
theorem zq274 {p : Pf} (h : chkP p = 0) : 0 ≤ p.bits ∧ p.bits ≤ (wid p.ad.v6 : Nat) := by
 unfold chkP at h
 split at h
 ·rename_i h1; exact absurd h h1
 split at h
 ·cases h
 ·rename_i h1; simp only [not_or] at h1; omega
def ordI (x y : Int) : Int := if x < y then -1 else if x > y then 1 else 0
def ordA (a b : Ad) : Int := if a.v6 ≠ b.v6 ∧ b.v6 then -1 else if a.v6 ≠ b.v6 then 1 else if a.hi ≠ b.hi then ordI a.hi b.hi else ordI a.lo b.lo
def ordP (p q : Pf) : Int := if ordA p.ad q.ad ≠ 0 then ordA p.ad q.ad else p.bits - q.bits
def holds (p : Pf) (a : Ad) : Bool := p.ad.v6 == a.v6 && decide (cutA a p.bits = p.ad)
def over (p q : Pf) : Bool := decide (p.bits ≤ q.bits) && holds p q.ad
def zq871 (l : List UInt8) : ByteArray := ⟨l.toArray⟩
end Go.Ma
namespace Go.Ma
open Go
theorem zq868 (X Y sub : List UInt8) : Lib.occAt (X ++ sub ++ Y) sub X.length = true := by
 unfold Lib.occAt
 rw [zc48,List.drop_left,List.isPrefixOf_iff_prefix]
 exact List.prefix_append _ _
theorem zq526 {s sub : List UInt8} {k : Nat} (hk : k ≤ s.length) (h : Lib.occAt s sub k = true) (hn : ∀ j,j < k → Lib.occAt s sub j = false) : Lib.index s sub = (k : Int) := by
 rcases Lib.index_spec s sub with ⟨_,h2⟩ | ⟨i,h1,_,h3,h4⟩
 ·rw [h2 k hk] at h; cases h
 ·rw [h1]
  rcases Nat.lt_trichotomy i k with hlt | he | hlt
  ·rw [hn i hlt] at h3; cases h3
  ·rw [he]
  ·rw [h4 k hlt] at h; cases h
theorem zq528 {s sub : List UInt8} (hn : ∀ j,j ≤ s.length → Lib.occAt s sub j = false) : Lib.index s sub = -1 := by
 rcases Lib.index_spec s sub with ⟨h1,_⟩ | ⟨i,_,h2,h3,_⟩
 ·exact h1
 ·rw [hn i h2] at h3; cases h3
theorem zq869 {s : List UInt8} {c : UInt8} {j : Nat} : Lib.occAt s [c] j = decide (s[j]? = some c) := by
 unfold Lib.occAt
 rw [← List.head?_drop]
 cases s.drop j with
 | nil => rfl
 | cons b r =>
  rw [Bool.eq_iff_iff]
  simp [List.isPrefixOf]
  exact eq_comm
theorem zq870 {s : List UInt8} {c d : UInt8} {j : Nat} : Lib.occAt s [c,d] j = (decide (s[j]? = some c) && decide (s[j + 1]? = some d)) := by
 unfold Lib.occAt
 have h1 : s[j]? = (s.drop j)[0]? := by rw [zc40,Nat.add_zero]
 have h2 : s[j + 1]? = (s.drop j)[1]? := by rw [zc40]
 rw [h1,h2]
 match s.drop j with
 | [] => rfl
 | [b] => simp [List.isPrefixOf]
 | b :: b2 :: r =>
  rw [Bool.eq_iff_iff]
  simp [List.isPrefixOf]
  constructor
  ·rintro ⟨a,b⟩; exact ⟨a.symm,b.symm⟩
  ·rintro ⟨a,b⟩; exact ⟨a.symm,b.symm⟩
theorem zq527 (X Y : List UInt8) (c : UInt8) (h : c ∉ X) : Lib.index (X ++ c :: Y) [c] = (X.length : Int) := by
 refine zq526 (by simp) ?_ fun j hj => ?_
 ·have := zq868 X Y [c]
  rwa [zc48] at this
 ·rw [zq869]
  refine decide_eq_false fun he => ?_
  rw [zc6 hj] at he
  exact h (zc5 he)
theorem zq529 (X : List UInt8) (c : UInt8) (h : c ∉ X) : Lib.index X [c] = -1 := zq528 fun j _ => by
 rw [zq869]
 exact decide_eq_false fun he => h (zc5 he)
theorem zq242 : ∀ (X Y : List UInt8) (c : UInt8),c ∉ X → Lib.indexByte (X ++ c :: Y) c = (X.length : Int)
 | [],Y,c,_ => by simp [Lib.indexByte]
 | b :: X,Y,c,h => by
  have hb : (b == c) = false := by
   rw [beq_eq_false_iff_ne]
   exact fun e => h (by simp [e])
  rw [zc43,Lib.indexByte,hb,zq242 X Y c fun hx => h (by simp [hx])]
  have : ((X.length : Int) == -1) = false := by rw [beq_eq_false_iff_ne]; omega
  rw [this]
  simp
theorem zq243 : ∀ (X : List UInt8) (c : UInt8),c ∉ X → Lib.indexByte X c = -1
 | [],_,_ => rfl
 | b :: X,c,h => by
  have hb : (b == c) = false := by
   rw [beq_eq_false_iff_ne]
   exact fun e => h (by simp [e])
  rw [Lib.indexByte,hb,zq243 X c fun hx => h (by simp [hx])]
  rfl
theorem zq244 : ∀ {X : List UInt8} {c : UInt8},c ∈ X → 0 ≤ Lib.indexByte X c
 | [],_,h => by cases h
 | b :: X,c,h => by
  rw [Lib.indexByte]
  cases hb : b == c
  ·have hx : c ∈ X := by
    rcases zc28.1 h with rfl | hx
    ·simp at hb
    ·exact hx
   have ih := zq244 hx
   have : (Lib.indexByte X c == -1) = false := by rw [beq_eq_false_iff_ne]; omega
   rw [this]
   simp only [zc16,if_false]
   omega
  ·simp
theorem zq587 (x : List UInt8) (y : List UInt8) (r : List (List UInt8)) (c : UInt8) : Lib.join (x :: y :: r) [c] = x ++ c :: Lib.join (y :: r) [c] := by
 rw [Lib.join_cons,Lib.join_cons]
 simp [Lib.joinTail]
theorem zq1331 (c : UInt8) : ∀ (xs : List (List UInt8)),xs ≠ [] → (∀ x ∈ xs,c ∉ x) → ∀ k,xs.length ≤ k + 1 → Lib.splitK [c] 0 k (Lib.join xs [c]) = xs
 | [],h,_,_,_ => absurd rfl h
 | [x],_,hx,k,_ => by
  rw [Lib.join_one]
  cases k with
  | zero => rfl
  | succ k =>
   rw [Lib.splitK,zq529 x c (hx x (by simp))]
   rfl
 | x :: y :: r,_,hx,k,hk => by
  cases k with
  | zero => simp at hk
  | succ k =>
   rw [zq587,Lib.splitK,zq527 x _ c (hx x (by simp))]
   have : ((x.length : Int) == -1) = false := by rw [beq_eq_false_iff_ne]; omega
   rw [this]
   simp only [zc16,if_false,zc42,Nat.add_zero]
   have h1 : (x ++ c :: Lib.join (y :: r) [c]).take x.length = x := List.take_left
   have h2 : (x ++ c :: Lib.join (y :: r) [c]).drop (x.length + [c].length) = Lib.join (y :: r) [c] := by
    rw [← List.drop_drop,List.drop_left]
    rfl
   rw [h1,h2,zq1331 c (y :: r) (by simp) (fun z hz => hx z (by simp [hz])) k (by simpa using hk)]
theorem zq299 (c : UInt8) : ∀ (xs : List (List UInt8)),(∀ x ∈ xs,c ∉ x) → (Lib.join xs [c]).count c + 1 = xs.length ∨ xs = []
 | [],_ => .inr rfl
 | [x],h => .inl (by rw [Lib.join_one,List.count_eq_zero.2 (h x (by simp))]; rfl)
 | x :: y :: r,h => by
  rcases zq299 c (y :: r) (fun z hz => h z (by simp [hz])) with h1 | h1
  ·left
   rw [zq587,List.count_append,List.count_cons_self,List.count_eq_zero.2 (h x (by simp))]
   simp only [zc21] at h1 ⊢
   omega
  ·cases h1
theorem zq1339 (c : UInt8) {xs : List (List UInt8)} (h0 : xs ≠ []) (h : ∀ x ∈ xs,c ∉ x) : zq1332 ⟨(Lib.join xs [c]).toArray⟩ c = xs.map fun x => ⟨x.toArray⟩ := by
 have hd : (zq1332 ⟨(Lib.join xs [c]).toArray⟩ c).map (·.data.toList) = xs := by
  unfold zq1332
  rw [Lib.splitB_data]
  have hc : Lib.countB ⟨(Lib.join xs [c]).toArray⟩ ⟨#[c]⟩ = (Lib.join xs [c]).count c := by
   have := Lib.count_one c (Lib.join xs [c])
   exact this
  rw [hc]
  rcases zq299 c xs h with h1 | h1
  ·exact zq1331 c xs h0 h _ (by omega)
  ·exact absurd h1 h0
 have := congrArg (List.map fun x : List UInt8 => (⟨x.toArray⟩ : ByteArray)) hd
 rw [List.map_map] at this
 rw [← this]
 have : ((fun x : List UInt8 => (⟨x.toArray⟩ : ByteArray)) ∘ fun x : ByteArray => x.data.toList) = id := by
  funext x
  cases x
  rfl
 rw [this,List.map_id]
theorem zq509 (d : Nat) (h : d < 16) : hexv (hexD d) = some d := by
 have : ∀ d : Fin 16,hexv (hexD d) = some d.val := by decide +kernel
 exact this ⟨d,h⟩
theorem zq508 (d : Nat) (h : d < 16) : zq1007 (hexD d) = true ∧ hexD d ≠ 58 ∧ hexD d ≠ 46 ∧ hexD d ≠ 47 := by
 have : ∀ d : Fin 16,zq1007 (hexD d) = true ∧ hexD d ≠ 58 ∧ hexD d ≠ 46 ∧ hexD d ≠ 47 := by decide +kernel
 exact this ⟨d,h⟩
theorem zq511 (d : Nat) (h : d < 16) (r : List UInt8) (a : Nat) (ha : a < 4096) : hexF (hexD d :: r) a = hexF r (a * 16 + d) := by
 rw [hexF,zq509 d h]
 simp only
 rw [if_neg (by omega)]
theorem zq505 (n : Nat) (h : n < 65536) : hexF (hex4 n) 0 = some n ∧ 1 ≤ (hex4 n).length ∧ (hex4 n).length ≤ 4 ∧ (∀ c ∈ hex4 n,zq1007 c = true ∧ c ≠ 58 ∧ c ≠ 46 ∧ c ≠ 47) := by
 have key : ∀ d : Nat,d < 16 → zq1007 (hexD d) = true ∧ hexD d ≠ 58 ∧ hexD d ≠ 46 ∧ hexD d ≠ 47 := zq508
 unfold hex4
 by_cases h1 : n < 16
 ·rw [if_pos h1]
  refine ⟨?_,by simp,by simp,fun c hc => ?_⟩
  ·rw [zq511 n h1 _ _ (by omega)]
   simp [hexF]
  ·rw [zc39] at hc
   rw [hc]
   exact key _ h1
 ·rw [if_neg h1]
  by_cases h2 : n < 256
  ·rw [if_pos h2]
   refine ⟨?_,by simp,by simp,fun c hc => ?_⟩
   ·rw [zq511 _ (by omega) _ _ (by omega),zq511 _ (by omega) _ _ (by omega)]
    simp only [hexF,zc2]
    omega
   ·simp only [zc28,zc38,or_false] at hc
    rcases hc with rfl | rfl <;> exact key _ (by omega)
  ·rw [if_neg h2]
   by_cases h3 : n < 4096
   ·rw [if_pos h3]
    refine ⟨?_,by simp,by simp,fun c hc => ?_⟩
    ·rw [zq511 _ (by omega) _ _ (by omega),zq511 _ (by omega) _ _ (by omega),zq511 _ (by omega) _ _ (by omega)]
     simp only [hexF,zc2]
     omega
    ·simp only [zc28,zc38,or_false] at hc
     rcases hc with rfl | rfl | rfl <;> exact key _ (by omega)
   ·rw [if_neg h3]
    refine ⟨?_,by simp,by simp,fun c hc => ?_⟩
    ·rw [zq511 _ (by omega) _ _ (by omega),zq511 _ (by omega) _ _ (by omega),zq511 _ (by omega) _ _ (by omega),zq511 _ (by omega) _ _ (by omega)]
     simp only [hexF,zc2]
     omega
    ·simp only [zc28,zc38,or_false] at hc
     rcases hc with rfl | rfl | rfl | rfl <;> exact key _ (by omega)
theorem zq998 (n : Nat) (h : n < 65536) : partF ⟨(hex4 n).toArray⟩ 16 4 65535 = some (n : Int) := by
 obtain ⟨h1,h2,h3,h4⟩ := zq505 n h
 unfold partF
 have hall : (hex4 n).all zq1007 = true := List.all_eq_true.2 fun c hc => (h4 c hc).1
 have hsz : (⟨(hex4 n).toArray⟩ : ByteArray).size = (hex4 n).length := by simp [ByteArray.size]
 rw [if_pos hall]
 have hn : numU 16 ⟨(hex4 n).toArray⟩ = some n := by
  unfold numU hexU
  rw [if_neg (by decide),if_neg (by rw [hsz]; omega)]
  exact h1
 rw [hn]
 simp only
 rw [if_neg]
 rw [hsz]
 omega
theorem zq997 (n : Nat) (h : n < 256) : partF ⟨(dec3 n).toArray⟩ 10 3 255 = some (n : Int) := by
 have : ∀ d : Fin 256,partF ⟨(dec3 d).toArray⟩ 10 3 255 = some ((d.val : Nat) : Int) := by decide +kernel
 exact this ⟨n,h⟩
theorem zq311 (n : Nat) (h : n < 1000) : 1 ≤ (dec3 n).length ∧ (dec3 n).length ≤ 3 ∧ ∀ c ∈ dec3 n,c ≠ 58 ∧ c ≠ 46 ∧ c ≠ 47 := by
 have : ∀ d : Fin 1000,1 ≤ (dec3 d).length ∧ (dec3 d).length ≤ 3 ∧ (dec3 d).all (fun c => !(c == 58) && !(c == 46) && !(c == 47)) = true := by decide +kernel
 obtain ⟨a,b,c⟩ := this ⟨n,h⟩
 refine ⟨a,b,fun x hx => ?_⟩
 have := List.all_eq_true.1 c x hx
 simpa [and_assoc] using this
end Go.Ma
namespace Go.Ma
open Go
theorem zq94 (a : Ad) : zq96 a = some (chkA a,()) := by
 unfold zq96 chkA
 cases hv : a.v6 <;> by_cases h1 : a.hi = 0 <;> by_cases h2 : a.lo ≥ 4294967296 <;> simp [zq235,zq233,h1,h2]
theorem zq1628 (v : Bool) : wid v ≤ 128 := by cases v <;> decide
theorem zq1097 (a : Ad) : zq1099 a = some (((wid a.v6 : Nat) : Int),()) := by
 unfold zq1099
 cases a.v6 <;> rfl
theorem zq1104 (a : Ad) (bits : Int) (hb : 0 ≤ bits) (hb' : bits ≤ (wid a.v6 : Nat)) : zq1106 a bits = some (maskA a.v6 bits,()) := by
 unfold zq1106
 rw [zq1097,zq220,zq812]
 have hw := zq1628 a.v6
 obtain ⟨r,hr⟩ : ∃ r : Nat,((wid a.v6 : Nat) : Int) - bits = (r : Int) := ⟨(((wid a.v6 : Nat) : Int) - bits).toNat,by omega⟩
 have hrn : wid a.v6 - bits.toNat = r := by omega
 rw [hrn,hr]
 rw [zq1187 (zq519 (by omega) (by omega))]
 by_cases h1 : r < 64
 ·rw [decide_eq_true (show (r : Int) < 64 by omega),zq235,zq1187 (by simp),decide_eq_false (show ¬ (r : Int) > 64 by omega),zq233,zq1244 h1]
  rw [show r - 64 = 0 by omega,Nat.min_eq_left (by omega)]
  rfl
 ·rw [decide_eq_false (show ¬ (r : Int) < 64 by omega),zq233]
  by_cases h2 : r > 64
  ·rw [decide_eq_true (show (r : Int) > 64 by omega),zq235]
   by_cases h3 : r < 128
   ·rw [decide_eq_true (show (r : Int) < 128 by omega),zq235,zq1187 (zq519 (by omega) (by omega)),zq1187 (by simp; omega)]
    rw [show (r : Int) - 64 = ((r - 64 : Nat) : Int) by omega,zq1244 (by omega),Nat.min_eq_right (by omega)]
    rfl
   ·rw [decide_eq_false (show ¬ (r : Int) < 128 by omega),zq233]
    have : r = 128 := by omega
    subst this
    rfl
  ·have : r = 64 := by omega
   subst this
   rfl
theorem zq1046 (a : Ad) (h : a.wf) (bits : Int) (hb : 0 ≤ bits) (hb' : bits ≤ (wid a.v6 : Nat)) : zq1048 a bits = some (cutA a bits,()) := by
 unfold zq1048
 rw [zq1104 a bits hb hb',zq220,zq812,zq301 a h]
 obtain ⟨h1,h2,h3,h4⟩ := h
 have hw := zq1628 a.v6
 have e1 := zq175 a.hi.toNat (wid a.v6 - bits.toNat - 64) (by omega) (by omega)
 have e2 := zq175 a.lo.toNat (min (wid a.v6 - bits.toNat) 64) (by omega) (by omega)
 rw [Int.toNat_of_nonneg h1] at e1
 rw [Int.toNat_of_nonneg h3] at e2
 simp only
 rw [e1,e2]
theorem zq390 (a b : Ad) : eqAd a b = decide (a = b) := by
 have e : (a = b) ↔ (a.v6 = b.v6 ∧ a.hi = b.hi ∧ a.lo = b.lo) := by
  cases a; cases b
  simp only [Ad.mk.injEq]
 rw [Bool.eq_iff_iff,decide_eq_true_iff,e]
 unfold eqAd
 simp [beqB,acmp]
theorem zq397 (a b : Pf) : eqPf a b = decide (a = b) := by
 have e : (a = b) ↔ (a.ad.v6 = b.ad.v6 ∧ a.ad.hi = b.ad.hi ∧ a.ad.lo = b.ad.lo ∧ a.bits = b.bits) := by
  cases a with | mk a n => cases b with | mk b k =>
  cases a; cases b
  simp only [Pf.mk.injEq,Ad.mk.injEq,and_assoc]
 rw [Bool.eq_iff_iff,decide_eq_true_iff,e]
 unfold eqPf
 simp [beqB,acmp]
theorem zq1040 {p : Pf} (h : p.In) : zq1042 p = some (chkP p,()) := by
 unfold zq1042 chkP
 rw [zq94,zq220]
 by_cases h1 : chkA p.ad = 0
 ·simp only [h1,decide_true,zc10,zq233,ne_eq,not_true,if_false]
  rw [zq1097,zq220,br_ss,zq220]
  by_cases h2 : p.bits < 0 ∨ p.bits > wid p.ad.v6
  ·rw [if_pos h2]
   have : (bif decide (p.bits < 0) then true else decide (p.bits > ((wid p.ad.v6 : Nat) : Int))) = true := by
    rcases h2 with h2 | h2 <;> simp [h2]
   rw [this,zq235]
  ·rw [if_neg h2]
   have : (bif decide (p.bits < 0) then true else decide (p.bits > ((wid p.ad.v6 : Nat) : Int))) = false := by
    simp only [not_or] at h2
    simp [h2.1]; omega
   rw [this,zq233,zq1046 p.ad h.1.wf p.bits (by omega) (by omega),zq220,zq390]
   by_cases h3 : cutA p.ad p.bits = p.ad <;> simp [h3,zq235,zq233]
 ·simp [h1,zq235]
end Go.Ma
namespace Go.Ma
open Go
def allA (last : Ad) : Nat → Ad → Option (List Ad)
 | 0,_ => none
 | k + 1,a => br (decide (a = last)) (some [a]) ((zq90 a).bind fun y => br y.2.1 ((allA last k y.1).map (a :: ·)) (some [a]))
def zq419 (p : Pf) (as : List Ad) (ls : List Ls) : List Ad → Option (Ad × Bool × Unit)
 | [] => some (⟨false,0,0⟩,false,())
 | a :: r => (zq42 p as ls a).bind fun t => (zq419 p as ls r).bind fun y => some (bif t.1 then y else (a,true,()))
def zq23 (p : Pf) (as : List Ad) (ls : List Ls) : Option (Ad × Bool × Unit) :=
 (zq1063 p).bind fun y => (allA y.1 64 p.ad).bind fun xs => zq419 p as ls xs
def zq1585 : List ByteArray → List Ls → Bool
 | _,[] => false
 | seen,x :: r => bif seen.any (fun s => decide (s = x.who)) then true else zq1585 (x.who :: seen) r
def zq742 (l : List Ls) : Option (Bool × Unit) := req (Nat.ble l.length 1024 && l.all (fun x => Nat.ble x.who.size 1024)) (some (zq1585 [] l,()))
end Go.Ma
namespace Go.Ma
open Go
end Go.Ma
namespace Go.Ma
open Go
end Go.Ma
namespace Go.Ma
open Go
abbrev addr_groups_L3_A := (((Int × Unit) × Unit × Unit × (Int × Unit) × Unit) × ((Ad × Unit) × List ByteArray × Unit))
abbrev addr_groups_L3_B := Option ((Unit × Unit) × (List ByteArray × Unit))
def zq129 (rec : addr_groups_L3_A → addr_groups_L3_B) (x : addr_groups_L3_A) : addr_groups_L3_B :=
 let v0 := x.1.1.1
 let v1 := x.1.2.2.2.1.1
 let v2 := x.2.1.1
 let v3 := x.2.2.1
 br (decide (v1 < v0))
 ((zq128 v2 v1).bind fun y1 =>
 (zq1482 y1.1 16).bind fun y2 =>
 req (room (lenL v3) (lenL ([y2.1] : List ByteArray))) <|
 req (i64ok (v1 + 1)) <|
 rec (((v0,()),(),(),(v1 + 1,()),()),((v2,()),v3 ++ ([y2.1] : List ByteArray),())))
 (some (((),()),(v3,())))
def zq136 (a0 : Ad) (a1 : Int) (a2 : Int) : Option (ByteArray × Unit) :=
 (loopN zq129 FUEL (((a2,()),(()),(()),(a1,()),()),((a0,()),([] : List ByteArray),()))).bind fun y1 =>
 (zq1493 y1.2.1 (⟨#[58]⟩ : ByteArray)).bind fun y2 =>
 some (y2.1,())
abbrev addr_Text_L4_A := ((Unit × Unit × (Int × Unit) × Unit) × ((Ad × Unit) × List ByteArray × Unit))
abbrev addr_Text_L4_B := Option ((Unit × Unit) × (List ByteArray × Unit))
def zq114 (rec : addr_Text_L4_A → addr_Text_L4_B) (x : addr_Text_L4_A) : addr_Text_L4_B :=
 let v0 := x.1.2.2.1.1
 let v1 := x.2.1.1
 let v2 := x.2.2.1
 br (decide (v0 ≥ 0))
 (req (decide (0 ≤ v0)) <|
 (zq1482 (aop .and .u64 (aop .shr .u64 v1.lo v0) 255) 10).bind fun y1 =>
 req (room (lenL v2) (lenL ([y1.1] : List ByteArray))) <|
 req (i64ok (v0 - 8)) <|
 rec (((),(),(v0 - 8,()),()),((v1,()),v2 ++ ([y1.1] : List ByteArray),())))
 (some (((),()),(v2,())))
def zq122 (a0 : Ad) : Option (ByteArray × Unit) :=
 br (!a0.v6)
 ((loopN zq114 FUEL (((()),(()),(24,()),()),((a0,()),([] : List ByteArray),()))).bind fun y1 =>
 (zq1493 y1.2.1 (⟨#[46]⟩ : ByteArray)).bind fun y2 =>
 some (y2.1,()))
 ((zq144 a0).bind fun y1 =>
 br (decide (y1.2.1 = 0))
 ((zq136 a0 0 8).bind fun y2 =>
 some (y2.1,()))
 ((zq136 a0 0 y1.1).bind fun y2 =>
 req (roomS (catS y2.1 (⟨#[58,58]⟩ : ByteArray))) <|
 req (i64ok (y1.1 + y1.2.1)) <|
 (zq136 a0 (y1.1 + y1.2.1) 8).bind fun y3 =>
 req (roomS (catS (catS y2.1 (⟨#[58,58]⟩ : ByteArray)) y3.1)) <|
 some (catS (catS y2.1 (⟨#[58,58]⟩ : ByteArray)) y3.1,())))
def zq1093 (a0 : Pf) : Option (ByteArray × Unit) :=
 (zq122 a0.ad).bind fun y1 =>
 req (roomS (catS y1.1 (⟨#[47]⟩ : ByteArray))) <|
 (zq1485 a0.bits).bind fun y2 =>
 req (roomS (catS (catS y1.1 (⟨#[47]⟩ : ByteArray)) y2.1)) <|
 some (catS (catS y1.1 (⟨#[47]⟩ : ByteArray)) y2.1,())
def zq570 (a0 : ByteArray) (a1 : ByteArray) : Option (ByteArray × ByteArray × Bool × Unit) :=
 (zq573 a0 a1).bind fun y1 =>
 br (decide (y1.1 ≥ 0))
 (req ((decide (0 ≤ y1.1)) && (decide (y1.1 ≤ lenS a0))) <|
 req (i64ok (y1.1 + (lenS a1))) <|
 req (((decide (0 ≤ y1.1 + (lenS a1))) && (decide (y1.1 + (lenS a1) ≤ lenS a0))) && (decide (lenS a0 ≤ lenS a0))) <|
 some (subS a0 0 y1.1,subS a0 (y1.1 + (lenS a1)) (lenS a0),true,()))
 (some (a0,(ByteArray.empty),false,()))
def zq1490 (a0 : ByteArray) (a1 : ByteArray) : Option (ByteArray × ByteArray × Bool × Unit) :=
 (zq570 a0 a1).bind fun y1 =>
 some (y1.1,y1.2.1,y1.2.2.1,())
def zq113 (a0 : ByteArray) : Option (Ad × Int × Unit) :=
 (zq155 a0).bind fun y1 =>
 br (!y1.2.1)
 (some ((⟨false,0,0⟩ : Ad),1,()))
 (some (y1.1,0,()))
def zq1087 (a0 : ByteArray) : Option (Pf × Int × Unit) :=
 (zq1490 a0 (⟨#[47]⟩ : ByteArray)).bind fun y1 =>
 (zq113 y1.1).bind fun y2 =>
 (zq1051 y1.2.1).bind fun y3 =>
 (br (!y1.2.2.1)
 (some true)
 (some (!decide (y2.2.1 = 0)))).bind fun c4 =>
 (br c4
 (some true)
 (some (!y3.2.1))).bind fun c5 =>
 br c5
 (some ((⟨(⟨false,0,0⟩ : Ad),0⟩ : Pf),1,()))
 ((zq1042 (⟨y2.1,y3.1⟩ : Pf)).bind fun y6 =>
 br (!decide (y6.1 = 0))
 (some ((⟨(⟨false,0,0⟩ : Ad),0⟩ : Pf),y6.1,()))
 (some ((⟨y2.1,y3.1⟩ : Pf),0,())))
def zq1530 (a0 : Oq) : Option (ByteArray × Unit) :=
 req (zq523 a0.kind 6) <|
 req (Nat.blt (a0.kind).toNat 6) <|
 br (decide (a0.kind = 1))
 ((zq1093 a0.pf).bind fun y1 =>
 req (room (lenL ([zq1631 (a0.kind).toNat] : List ByteArray)) (lenL ([y1.1] : List ByteArray))) <|
 (zq1493 (([zq1631 (a0.kind).toNat] : List ByteArray) ++ ([y1.1] : List ByteArray)) (⟨#[32]⟩ : ByteArray)).bind fun y2 =>
 some (y2.1,()))
 (br (decide (a0.kind = 2))
 ((zq122 a0.ad).bind fun y1 =>
 req (room (lenL ([zq1631 (a0.kind).toNat] : List ByteArray)) (lenL ([y1.1] : List ByteArray))) <|
 (zq1493 (([zq1631 (a0.kind).toNat] : List ByteArray) ++ ([y1.1] : List ByteArray)) (⟨#[32]⟩ : ByteArray)).bind fun y2 =>
 some (y2.1,()))
 (br (decide (a0.kind = 3))
 ((zq1485 a0.of_).bind fun y1 =>
 (zq1485 a0.n).bind fun y2 =>
 req (room (lenL ([zq1631 (a0.kind).toNat] : List ByteArray)) (lenL ([a0.who,y1.1,y2.1] : List ByteArray))) <|
 (zq1493 (([zq1631 (a0.kind).toNat] : List ByteArray) ++ ([a0.who,y1.1,y2.1] : List ByteArray)) (⟨#[32]⟩ : ByteArray)).bind fun y3 =>
 some (y3.1,()))
 (br (decide (a0.kind = 4))
 (req (room (lenL ([zq1631 (a0.kind).toNat] : List ByteArray)) (lenL ([a0.who] : List ByteArray))) <|
 (zq1493 (([zq1631 (a0.kind).toNat] : List ByteArray) ++ ([a0.who] : List ByteArray)) (⟨#[32]⟩ : ByteArray)).bind fun y1 =>
 some (y1.1,()))
 (br (decide (a0.kind = 5))
 ((zq1485 a0.n).bind fun y1 =>
 req (room (lenL ([zq1631 (a0.kind).toNat] : List ByteArray)) (lenL ([y1.1] : List ByteArray))) <|
 (zq1493 (([zq1631 (a0.kind).toNat] : List ByteArray) ++ ([y1.1] : List ByteArray)) (⟨#[32]⟩ : ByteArray)).bind fun y2 =>
 some (y2.1,()))
 ((zq1493 ([zq1631 (a0.kind).toNat] : List ByteArray) (⟨#[32]⟩ : ByteArray)).bind fun y1 =>
 some (y1.1,()))))))
def zq1545 (a0 : Oq) : Option (ByteArray × Int × Unit) :=
 (zq1380 a0).bind fun y1 =>
 br (!decide (y1.1 = 0))
 (some ((ByteArray.empty),y1.1,()))
 ((zq1530 a0).bind fun y2 =>
 some (y2.1,0,()))
abbrev text_told_L3_A := ((Unit × Unit × Unit × (ByteArray × ByteArray × ByteArray × ByteArray × ByteArray × ByteArray × Unit) × (Int × Unit) × Unit) × (List ByteArray × Unit × (Oq × Unit) × (Oq × Unit) × Unit))
abbrev text_told_L3_B := Option ((Unit × Unit × Unit × Unit) × (List ByteArray × Unit × (Oq × Unit) × (Oq × Unit) × Unit))
def zq1554 (rec : text_told_L3_A → text_told_L3_B) (x : text_told_L3_A) : text_told_L3_B :=
 let v0 := x.1.2.2.2.1.1
 let v1 := x.1.2.2.2.1.2.1
 let v2 := x.1.2.2.2.1.2.2.1
 let v3 := x.1.2.2.2.1.2.2.2.1
 let v4 := x.1.2.2.2.1.2.2.2.2.1
 let v5 := x.1.2.2.2.1.2.2.2.2.2.1
 let v6 := x.1.2.2.2.2.1.1
 let v7 := x.2.1
 let v8 := x.2.2.2.1.1
 let v9 := x.2.2.2.2.1.1
 br (decide (v6 < 6))
 (req (zq523 v6 6) <|
 (br (decide (v6 > 0))
 (req (zq523 0 (lenL v7)) <|
 (geti v7 0).bind fun p1 =>
 some (zq1477 .eql (strAt [v0,v1,v2,v3,v4,v5] v6) p1))
 (some false)).bind fun c1 =>
 br c1
 (req (i64ok (v6 + 1)) <|
 rec (((),(),(),(v0,v1,v2,v3,v4,v5,()),(v6 + 1,()),()),(v7,(),(v8,()),((⟨v6,v9.pf,v9.ad,v9.who,v9.of_,v9.n⟩ : Oq),()),())))
 (req (i64ok (v6 + 1)) <|
 rec (((),(),(),(v0,v1,v2,v3,v4,v5,()),(v6 + 1,()),()),(v7,(),(v8,()),(v9,()),()))))
 (some (((),(),(),()),(v7,(),(v8,()),(v9,()),())))
def zq1561 (a0 : List ByteArray) : Option (Oq × Unit) :=
 (loopN zq1554 FUEL (((()),(()),(()),((⟨#[]⟩ : ByteArray),(⟨#[112,111,111,108]⟩ : ByteArray),(⟨#[107,101,101,112]⟩ : ByteArray),(⟨#[103,114,97,110,116]⟩ : ByteArray),(⟨#[102,114,101,101]⟩ : ByteArray),(⟨#[116,105,99,107]⟩ : ByteArray),()),(0,()),()),(a0,(()),((⟨0,(⟨(⟨false,0,0⟩ : Ad),0⟩ : Pf),(⟨false,0,0⟩ : Ad),(ByteArray.empty),0,0⟩ : Oq),()),((⟨0,(⟨(⟨false,0,0⟩ : Ad),0⟩ : Pf),(⟨false,0,0⟩ : Ad),(ByteArray.empty),0,0⟩ : Oq),()),()))).bind fun y1 =>
 br (decide (y1.2.2.2.2.1.1.kind = 1))
 ((zq1553 1 y1.2.1).bind fun y2 =>
 (zq1087 y2.1).bind fun y3 =>
 some ((⟨y1.2.2.2.2.1.1.kind,y3.1,y1.2.2.2.2.1.1.ad,y1.2.2.2.2.1.1.who,y1.2.2.2.2.1.1.of_,y1.2.2.2.2.1.1.n⟩ : Oq),()))
 (br (decide (y1.2.2.2.2.1.1.kind = 2))
 ((zq1553 1 y1.2.1).bind fun y2 =>
 (zq113 y2.1).bind fun y3 =>
 some ((⟨y1.2.2.2.2.1.1.kind,y1.2.2.2.2.1.1.pf,y3.1,y1.2.2.2.2.1.1.who,y1.2.2.2.2.1.1.of_,y1.2.2.2.2.1.1.n⟩ : Oq),()))
 (br (decide (y1.2.2.2.2.1.1.kind = 3))
 ((zq1553 1 y1.2.1).bind fun y2 =>
 (zq1553 2 y1.2.1).bind fun y3 =>
 (zq1051 y3.1).bind fun y4 =>
 (zq1553 3 y1.2.1).bind fun y5 =>
 (zq1051 y5.1).bind fun y6 =>
 some ((⟨y1.2.2.2.2.1.1.kind,y1.2.2.2.2.1.1.pf,y1.2.2.2.2.1.1.ad,y2.1,y4.1,y6.1⟩ : Oq),()))
 (br (decide (y1.2.2.2.2.1.1.kind = 4))
 ((zq1553 1 y1.2.1).bind fun y2 =>
 some ((⟨y1.2.2.2.2.1.1.kind,y1.2.2.2.2.1.1.pf,y1.2.2.2.2.1.1.ad,y2.1,y1.2.2.2.2.1.1.of_,y1.2.2.2.2.1.1.n⟩ : Oq),()))
 (br (decide (y1.2.2.2.2.1.1.kind = 5))
 ((zq1553 1 y1.2.1).bind fun y2 =>
 (zq1051 y2.1).bind fun y3 =>
 some ((⟨y1.2.2.2.2.1.1.kind,y1.2.2.2.2.1.1.pf,y1.2.2.2.2.1.1.ad,y1.2.2.2.2.1.1.who,y1.2.2.2.2.1.1.of_,y3.1⟩ : Oq),()))
 (some (y1.2.2.2.2.1.1,()))))))
def zq1539 (a0 : ByteArray) : Option (Oq × Int × Unit) :=
 (zq1496 a0 (⟨#[32]⟩ : ByteArray)).bind fun y1 =>
 (zq1561 y1.1).bind fun y2 =>
 (zq1380 y2.1).bind fun y3 =>
 (br (!decide (y3.1 = 0))
 (some true)
 ((zq1530 y2.1).bind fun y4 =>
 some (zq1477 .neq y4.1 a0))).bind fun c4 =>
 br c4
 (some ((⟨0,(⟨(⟨false,0,0⟩ : Ad),0⟩ : Pf),(⟨false,0,0⟩ : Ad),(ByteArray.empty),0,0⟩ : Oq),1,()))
 (some (y2.1,0,()))
def zq652 : Option (Bool × Unit) :=
 zq642.bind fun y1 =>
 req (zq523 2 (lenL y1.1)) <|
 (geti y1.1 2).bind fun p2 =>
 (zq1545 p2).bind fun y3 =>
 (zq1539 (⟨#[112,111,111,108,32,48,46,48,46,48,46,56,47,51,48]⟩ : ByteArray)).bind fun y4 =>
 (zq1539 (⟨#[112,111,111,108,32,48,46,48,46,48,46,56,47,48,51,48]⟩ : ByteArray)).bind fun y5 =>
 br (decide (y3.2.1 = 0))
 (br (decide (y4.2.1 = 0))
 (br (decide (y5.2.1 = 1))
 (br (zq1477 .eql y3.1 (⟨#[103,114,97,110,116,32,120,32,48,32,49,48]⟩ : ByteArray))
 (zq642.bind fun y6 =>
 req (zq523 0 (lenL y6.1)) <|
 (geti y6.1 0).bind fun p7 =>
 some (eqOq y4.1 p7,()))
 (some (false,())))
 (some (false,())))
 (some (false,())))
 (some (false,()))
abbrev state_Check_L4_A := ((Unit × Unit × (Int × Unit) × (Int × Unit) × Unit) × (List (List Ad) × List Pf × List Ls × (Int × Unit) × Unit))
abbrev state_Check_L4_B := Option ((((Int × Unit) × Unit) × (List (List Ad) × List Pf × List Ls × Unit)) ⊕ ((Unit × Unit) × (List (List Ad) × List Pf × List Ls × (Int × Unit) × Unit)))
def zq1360 (rec : state_Check_L4_A → state_Check_L4_B) (x : state_Check_L4_A) : state_Check_L4_B :=
 let v0 := x.1.2.2.1.1
 let v1 := x.1.2.2.2.1.1
 let v2 := x.2.1
 let v3 := x.2.2.1
 let v4 := x.2.2.2.1
 let v5 := x.2.2.2.2.1.1
 br (decide (v1 < v0))
 (req (zq523 v1 (lenL v3)) <|
 (geti v3 v1).bind fun p1 =>
 (zq710 p1 (getL v2 v1)).bind fun y2 =>
 br (!decide (y2.1 = 0))
 (some (Sum.inl (((y2.1,()),()),(v2,v3,v4,()))))
 (req (i64ok (v1 + 1)) <|
 rec (((),(),(v0,()),(v1 + 1,()),()),(v2,v3,v4,(v5,()),()))))
 (some (Sum.inr ((((),()),(v2,v3,v4,(v5,()),())))))
abbrev state_Check_L11_A := ((Unit × (Int × Unit) × Unit) × (List (List Ad) × List Pf × List Ls × (Int × Unit) × Unit))
abbrev state_Check_L11_B := Option ((((Int × Unit) × Unit) × (List (List Ad) × List Pf × List Ls × Unit)) ⊕ ((Unit × Unit) × (List (List Ad) × List Pf × List Ls × (Int × Unit) × Unit)))
def zq1354 (rec : state_Check_L11_A → state_Check_L11_B) (x : state_Check_L11_A) : state_Check_L11_B :=
 let v0 := x.1.2.1.1
 let v1 := x.2.1
 let v2 := x.2.2.1
 let v3 := x.2.2.2.1
 let v4 := x.2.2.2.2.1.1
 br (decide (v0 < lenL v2))
 (req (i64ok (v0 - 1)) <|
 req (zq523 (v0 - 1) (lenL v2)) <|
 req (zq523 (v0 - 1) (lenL v2)) <|
 (geti v2 (v0 - 1)).bind fun p1 =>
 req (zq523 v0 (lenL v2)) <|
 req (zq523 v0 (lenL v2)) <|
 (geti v2 v0).bind fun p2 =>
 (zq1075 p1 p2).bind fun y3 =>
 (br (decide (y3.1 ≥ 0))
 (some true)
 (req (i64ok (v0 - 1)) <|
 req (zq523 (v0 - 1) (lenL v2)) <|
 req (zq523 (v0 - 1) (lenL v2)) <|
 (geti v2 (v0 - 1)).bind fun p4 =>
 req (zq523 v0 (lenL v2)) <|
 req (zq523 v0 (lenL v2)) <|
 (geti v2 v0).bind fun p5 =>
 (zq1069 p4 p5).bind fun y6 =>
 some y6.1)).bind fun c4 =>
 br c4
 (some (Sum.inl (((4,()),()),(v1,v2,v3,()))))
 (req (i64ok (v0 + 1)) <|
 rec (((),(v0 + 1,()),()),(v1,v2,v3,(v4,()),()))))
 (some (Sum.inr ((((),()),(v1,v2,v3,(v4,()),())))))
abbrev state_Check_L21_A := ((Unit × Unit × (Int × Unit) × (Int × Unit) × Unit) × (List (List Ad) × List Pf × List Ls × (Int × Unit) × Unit))
abbrev state_Check_L21_B := Option ((((Int × Unit) × Unit) × (List (List Ad) × List Pf × List Ls × Unit)) ⊕ (Unit × (List (List Ad) × List Pf × List Ls × Unit)))
def zq1357 (rec : state_Check_L21_A → state_Check_L21_B) (x : state_Check_L21_A) : state_Check_L21_B :=
 let v0 := x.1.2.2.1.1
 let v1 := x.1.2.2.2.1.1
 let v2 := x.2.1
 let v3 := x.2.2.1
 let v4 := x.2.2.2.1
 let v5 := x.2.2.2.2.1.1
 br (decide (v1 < v0))
 (req (zq523 v1 (lenL v4)) <|
 (geti v4 v1).bind fun p1 =>
 (zq1459 (v3,v2) v4 v5 p1.ad).bind fun y2 =>
 br (decide (y2.1 < 0))
 (some (Sum.inl (((5,()),()),(v2,v3,v4,()))))
 (req (i64ok (v1 + 1)) <|
 req ((decide (0 ≤ v1 + 1)) && (decide (v1 + 1 ≤ lenL v4))) <|
 (zq742 (subL v4 0 (v1 + 1))).bind fun y3 =>
 br y3.1
 (some (Sum.inl (((6,()),()),(v2,v3,v4,()))))
 (br (decide (p1.upto < v5))
 (some (Sum.inl (((4,()),()),(v2,v3,v4,()))))
 (req (i64ok (v1 + 1)) <|
 rec (((),(),(v0,()),(v1 + 1,()),()),(v2,v3,v4,(v5,()),()))))))
 (some (Sum.inr (((),(v2,v3,v4,())))))
def zq1368 (a0 : List Pf × List (List Ad)) (a1 : List Ls) (a2 : Int) : Option (Int × Unit) :=
 br (decide (lenL a0.1 > 3))
 (some (2,()))
 ((loopN zq1360 FUEL (((()),(()),(lenL a0.1,()),(0,()),()),(a0.2,a0.1,a1,(a2,()),()))).bind fun y1 =>
 sumC y1 (fun y2 =>
 some (y2.1.1.1,())) (fun y3 =>
 (loopN zq1354 FUEL (((()),(1,()),()),(y3.2.1,y3.2.2.1,y3.2.2.2.1,(y3.2.2.2.2.1.1,()),()))).bind fun y4 =>
 sumC y4 (fun y5 =>
 some (y5.1.1.1,())) (fun y6 =>
 (zq1465 y6.2.2.2.2.1.1 0 9999).bind fun y7 =>
 br (!y7.1)
 (some (3,()))
 ((zq672 y6.2.2.2.1 y6.2.2.2.2.1.1).bind fun y8 =>
 br (!decide (y8.1 = 0))
 (some (y8.1,()))
 ((loopN zq1357 FUEL (((()),(()),(lenL y6.2.2.2.1,()),(0,()),()),(y6.2.1,y6.2.2.1,y6.2.2.2.1,(y6.2.2.2.2.1.1,()),()))).bind fun y9 =>
 sumC y9 (fun y10 =>
 some (y10.1.1.1,())) (fun y11 =>
 some (0,())))))))
abbrev lease_Raw_slices_IndexFunc___api_Lease_api_Lease__L2_A := ((Unit × Unit × (Int × Unit) × (Int × Unit) × Unit) × (List Ad × List Ls × (Bool × Int × Int × Int × Unit) × (ByteArray × Unit) × List Ls × (Ad × Unit) × List Ls × (Bool × Int × Int × Int × Unit) × Unit))
abbrev lease_Raw_slices_IndexFunc___api_Lease_api_Lease__L2_B := Option ((((Int × Unit) × Unit) × (List Ad × List Ls × (Bool × Int × Int × Int × Unit) × (ByteArray × Unit) × List Ls × (Ad × Unit) × List Ls × (Bool × Int × Int × Int × Unit) × Unit)) ⊕ (Unit × (List Ad × List Ls × (Bool × Int × Int × Int × Unit) × (ByteArray × Unit) × List Ls × (Ad × Unit) × List Ls × (Bool × Int × Int × Int × Unit) × Unit)))
def zq733 (rec : lease_Raw_slices_IndexFunc___api_Lease_api_Lease__L2_A → lease_Raw_slices_IndexFunc___api_Lease_api_Lease__L2_B) (x : lease_Raw_slices_IndexFunc___api_Lease_api_Lease__L2_A) : lease_Raw_slices_IndexFunc___api_Lease_api_Lease__L2_B :=
 let v0 := x.1.2.2.1.1
 let v1 := x.1.2.2.2.1.1
 let v2 := x.2.1
 let v3 := x.2.2.1
 let v4 := x.2.2.2.1.1
 let v5 := x.2.2.2.1.2.1
 let v6 := x.2.2.2.1.2.2.1
 let v7 := x.2.2.2.1.2.2.2.1
 let v8 := x.2.2.2.2.1.1
 let v9 := x.2.2.2.2.2.1
 let zz := x.2.2.2.2.2.2
 let v10 := zz.1.1
 let v11 := zz.2.1
 let v12 := zz.2.2.1.1
 let v13 := zz.2.2.1.2.1
 let v14 := zz.2.2.1.2.2.1
 let v15 := zz.2.2.1.2.2.2.1
 br (decide (v1 < v0))
 (req (zq523 v1 (lenL v11)) <|
 (geti v11 v1).bind fun p1 =>
 (zq715 p1 v8).bind fun y2 =>
 br y2.1
 (some (Sum.inl (((v1,()),()),(v2,v3,(v4,v5,v6,v7,()),(v8,()),v9,(v10,()),v11,(v12,v13,v14,v15,()),()))))
 (req (i64ok (v1 + 1)) <|
 rec (((),(),(v0,()),(v1 + 1,()),()),(v2,v3,(v4,v5,v6,v7,()),(v8,()),v9,(v10,()),v11,(v12,v13,v14,v15,()),()))))
 (some (Sum.inr (((),(v2,v3,(v4,v5,v6,v7,()),(v8,()),v9,(v10,()),v11,(v12,v13,v14,v15,()),())))))
abbrev lease_Raw_slices_BinarySearchFunc___api_Lease_api_Lease_api_Lease__L3_A := ((Unit × Unit × Unit × (Int × Unit) × (Int × Unit) × (Int × Unit) × Unit) × (List Ad × List Ls × (Bool × Int × Int × Int × Unit) × (ByteArray × Unit) × List Ls × (Ad × Unit) × List Ls × (Bool × Int × Int × Int × Unit) × (Ad × Unit) × (Ls × Unit) × (Ls × Unit) × Unit))
abbrev lease_Raw_slices_BinarySearchFunc___api_Lease_api_Lease_api_Lease__L3_B := Option ((Unit × Unit × Unit × (Int × Unit) × (Int × Unit) × Unit) × (List Ad × List Ls × (Bool × Int × Int × Int × Unit) × (ByteArray × Unit) × List Ls × (Ad × Unit) × List Ls × (Bool × Int × Int × Int × Unit) × (Ad × Unit) × (Ls × Unit) × (Ls × Unit) × Unit))
def zq727 (rec : lease_Raw_slices_BinarySearchFunc___api_Lease_api_Lease_api_Lease__L3_A → lease_Raw_slices_BinarySearchFunc___api_Lease_api_Lease_api_Lease__L3_B) (x : lease_Raw_slices_BinarySearchFunc___api_Lease_api_Lease_api_Lease__L3_A) : lease_Raw_slices_BinarySearchFunc___api_Lease_api_Lease_api_Lease__L3_B :=
 let v0 := x.1.2.2.2.1.1
 let v1 := x.1.2.2.2.2.1.1
 let v2 := x.1.2.2.2.2.2.1.1
 let v3 := x.2.1
 let v4 := x.2.2.1
 let v5 := x.2.2.2.1.1
 let v6 := x.2.2.2.1.2.1
 let v7 := x.2.2.2.1.2.2.1
 let v8 := x.2.2.2.1.2.2.2.1
 let v9 := x.2.2.2.2.1.1
 let v10 := x.2.2.2.2.2.1
 let v11 := x.2.2.2.2.2.2.1.1
 let zz := x.2.2.2.2.2.2.2
 let v12 := zz.1
 let v13 := zz.2.1.1
 let v14 := zz.2.1.2.1
 let v15 := zz.2.1.2.2.1
 let v16 := zz.2.1.2.2.2.1
 let v17 := zz.2.2.1.1
 let v18 := zz.2.2.2.1.1
 let v19 := zz.2.2.2.2.1.1
 br (decide (v1 < v2))
 (req (i64ok (v1 + v2)) <|
 req (zq523 (convI .i64 (aop .shr .u64 (convI .u64 (v1 + v2)) 1)) (lenL v12)) <|
 (geti v12 (convI .i64 (aop .shr .u64 (convI .u64 (v1 + v2)) 1))).bind fun p1 =>
 (zq720 p1 v19).bind fun y2 =>
 br (decide (y2.1 < 0))
 (req (i64ok ((convI .i64 (aop .shr .u64 (convI .u64 (v1 + v2)) 1)) + 1)) <|
 rec (((),(),(),(v0,()),((convI .i64 (aop .shr .u64 (convI .u64 (v1 + v2)) 1)) + 1,()),(v2,()),()),(v3,v4,(v5,v6,v7,v8,()),(v9,()),v10,(v11,()),v12,(v13,v14,v15,v16,()),(v17,()),(v18,()),(v19,()),())))
 (rec (((),(),(),(v0,()),(v1,()),(convI .i64 (aop .shr .u64 (convI .u64 (v1 + v2)) 1),()),()),(v3,v4,(v5,v6,v7,v8,()),(v9,()),v10,(v11,()),v12,(v13,v14,v15,v16,()),(v17,()),(v18,()),(v19,()),()))))
 (some (((),(),(),(v0,()),(v1,()),()),(v3,v4,(v5,v6,v7,v8,()),(v9,()),v10,(v11,()),v12,(v13,v14,v15,v16,()),(v17,()),(v18,()),(v19,()),())))
abbrev lease_Raw_slices_BinarySearchFunc___api_Lease_api_Lease_api_Lease__1_L3_A := ((Unit × Unit × Unit × (Int × Unit) × (Int × Unit) × (Int × Unit) × Unit) × (List Ad × List Ls × (Bool × Int × Int × Int × Unit) × (ByteArray × Unit) × List Ls × (Ad × Unit) × List Ls × (Bool × Int × Int × Int × Unit) × (Ad × Unit) × (Ls × Unit) × (Ls × Unit) × Unit))
abbrev lease_Raw_slices_BinarySearchFunc___api_Lease_api_Lease_api_Lease__1_L3_B := Option ((Unit × Unit × Unit × (Int × Unit) × (Int × Unit) × Unit) × (List Ad × List Ls × (Bool × Int × Int × Int × Unit) × (ByteArray × Unit) × List Ls × (Ad × Unit) × List Ls × (Bool × Int × Int × Int × Unit) × (Ad × Unit) × (Ls × Unit) × (Ls × Unit) × Unit))
def zq726 (rec : lease_Raw_slices_BinarySearchFunc___api_Lease_api_Lease_api_Lease__1_L3_A → lease_Raw_slices_BinarySearchFunc___api_Lease_api_Lease_api_Lease__1_L3_B) (x : lease_Raw_slices_BinarySearchFunc___api_Lease_api_Lease_api_Lease__1_L3_A) : lease_Raw_slices_BinarySearchFunc___api_Lease_api_Lease_api_Lease__1_L3_B :=
 let v0 := x.1.2.2.2.1.1
 let v1 := x.1.2.2.2.2.1.1
 let v2 := x.1.2.2.2.2.2.1.1
 let v3 := x.2.1
 let v4 := x.2.2.1
 let v5 := x.2.2.2.1.1
 let v6 := x.2.2.2.1.2.1
 let v7 := x.2.2.2.1.2.2.1
 let v8 := x.2.2.2.1.2.2.2.1
 let v9 := x.2.2.2.2.1.1
 let v10 := x.2.2.2.2.2.1
 let v11 := x.2.2.2.2.2.2.1.1
 let zz := x.2.2.2.2.2.2.2
 let v12 := zz.1
 let v13 := zz.2.1.1
 let v14 := zz.2.1.2.1
 let v15 := zz.2.1.2.2.1
 let v16 := zz.2.1.2.2.2.1
 let v17 := zz.2.2.1.1
 let v18 := zz.2.2.2.1.1
 let v19 := zz.2.2.2.2.1.1
 br (decide (v1 < v2))
 (req (i64ok (v1 + v2)) <|
 req (zq523 (convI .i64 (aop .shr .u64 (convI .u64 (v1 + v2)) 1)) (lenL v12)) <|
 (geti v12 (convI .i64 (aop .shr .u64 (convI .u64 (v1 + v2)) 1))).bind fun p1 =>
 (zq720 p1 v19).bind fun y2 =>
 br (decide (y2.1 < 0))
 (req (i64ok ((convI .i64 (aop .shr .u64 (convI .u64 (v1 + v2)) 1)) + 1)) <|
 rec (((),(),(),(v0,()),((convI .i64 (aop .shr .u64 (convI .u64 (v1 + v2)) 1)) + 1,()),(v2,()),()),(v3,v4,(v5,v6,v7,v8,()),(v9,()),v10,(v11,()),v12,(v13,v14,v15,v16,()),(v17,()),(v18,()),(v19,()),())))
 (rec (((),(),(),(v0,()),(v1,()),(convI .i64 (aop .shr .u64 (convI .u64 (v1 + v2)) 1),()),()),(v3,v4,(v5,v6,v7,v8,()),(v9,()),v10,(v11,()),v12,(v13,v14,v15,v16,()),(v17,()),(v18,()),(v19,()),()))))
 (some (((),(),(),(v0,()),(v1,()),()),(v3,v4,(v5,v6,v7,v8,()),(v9,()),v10,(v11,()),v12,(v13,v14,v15,v16,()),(v17,()),(v18,()),(v19,()),())))
def zq739 (a0 : Pf) (a1 : List Ad) (a2 : List Ls) (a3 : ByteArray) (a4 : Int) (a5 : Int) : Option ((List Ls) × Ad × Bool × Unit) :=
 (zq695 a2 a4).bind fun y1 =>
 (loopN zq733 FUEL (((()),(()),(lenL y1.1,()),(0,()),()),(a1,a2,(a0.ad.v6,a0.ad.hi,a0.ad.lo,a0.bits,()),(a3,()),([] : List Ls),((⟨false,0,0⟩ : Ad),()),y1.1,(a0.ad.v6,a0.ad.hi,a0.ad.lo,a0.bits,()),()))).bind fun y2 =>
 sumC y2 (fun y3 =>
 br (decide (y3.1.1.1 ≥ 0))
 (req (i64ok (a4 + a5)) <|
 req (zq523 y3.1.1.1 (lenL y3.2.2.2.2.2.2.2.1)) <|
 req (zq523 y3.1.1.1 (lenL y3.2.2.2.2.2.2.2.1)) <|
 (geti y3.2.2.2.2.2.2.2.1 y3.1.1.1).bind fun p4 =>
 req (zq523 y3.1.1.1 (lenL (seti y3.2.2.2.2.2.2.2.1 y3.1.1.1 (⟨p4.ad,p4.who,a4 + a5⟩ : Ls)))) <|
 req (zq523 y3.1.1.1 (lenL (seti y3.2.2.2.2.2.2.2.1 y3.1.1.1 (⟨p4.ad,p4.who,a4 + a5⟩ : Ls)))) <|
 (geti (seti y3.2.2.2.2.2.2.2.1 y3.1.1.1 (⟨p4.ad,p4.who,a4 + a5⟩ : Ls)) y3.1.1.1).bind fun p5 =>
 some (seti y3.2.2.2.2.2.2.2.1 y3.1.1.1 (⟨p4.ad,p4.who,a4 + a5⟩ : Ls),p5.ad,true,()))
 ((zq23 (⟨(⟨y3.2.2.2.2.2.2.2.2.1.1,y3.2.2.2.2.2.2.2.2.1.2.1,y3.2.2.2.2.2.2.2.2.1.2.2.1⟩ : Ad),y3.2.2.2.2.2.2.2.2.1.2.2.2.1⟩ : Pf) y3.2.1 y3.2.2.2.2.2.2.2.1).bind fun y4 =>
 br (!y4.2.1)
 (some (([] : List Ls),y4.1,false,()))
 (req (i64ok (a4 + a5)) <|
 ((loopN zq727 FUEL (((()),(()),(()),(lenL y3.2.2.2.2.2.2.2.1,()),(0,()),(lenL y3.2.2.2.2.2.2.2.1,()),()),(y3.2.1,y3.2.2.1,(y3.2.2.2.1.1,y3.2.2.2.1.2.1,y3.2.2.2.1.2.2.1,y3.2.2.2.1.2.2.2.1,()),(y3.2.2.2.2.1.1,()),y3.2.2.2.2.2.1,(y3.2.2.2.2.2.2.1.1,()),y3.2.2.2.2.2.2.2.1,(y3.2.2.2.2.2.2.2.2.1.1,y3.2.2.2.2.2.2.2.2.1.2.1,y3.2.2.2.2.2.2.2.2.1.2.2.1,y3.2.2.2.2.2.2.2.2.1.2.2.2.1,()),(y4.1,()),((⟨y4.1,y3.2.2.2.2.1.1,a4 + a5⟩ : Ls),()),((⟨y4.1,y3.2.2.2.2.1.1,a4 + a5⟩ : Ls),()),()))).bind fun y5 =>
 br (decide (y5.1.2.2.2.2.1.1 < y5.1.2.2.2.1.1))
 (req (zq523 y5.1.2.2.2.2.1.1 (lenL y5.2.2.2.2.2.2.2.1)) <|
 (geti y5.2.2.2.2.2.2.2.1 y5.1.2.2.2.2.1.1).bind fun p6 =>
 (zq720 p6 y5.2.2.2.2.2.2.2.2.2.2.2.1.1).bind fun y7 =>
 some (y5.1.2.2.2.2.1.1,decide (y7.1 = 0),()))
 (some (y5.1.2.2.2.2.1.1,false,()))).bind fun y6 =>
 both
 (dup 1 <|
 req (decide (0 ≤ y6.1) && decide (y6.1 ≤ lenL y3.2.2.2.2.2.2.2.1) && room (lenL y3.2.2.2.2.2.2.2.1) 1) <|
 some (insL y3.2.2.2.2.2.2.2.1 y6.1 (⟨y4.1,y3.2.2.2.2.1.1,a4 + a5⟩ : Ls),y4.1,true,()))
 (req (decide (0 ≤ y6.1) && decide (y6.1 ≤ lenL y3.2.2.2.2.2.2.2.1) && room (lenL y3.2.2.2.2.2.2.2.1) 1) <|
 some (insL y3.2.2.2.2.2.2.2.1 y6.1 (⟨y4.1,y3.2.2.2.2.1.1,a4 + a5⟩ : Ls),y4.1,true,()))))) (fun y7 =>
 (zq23 (⟨(⟨y7.2.2.2.2.2.2.2.2.1.1,y7.2.2.2.2.2.2.2.2.1.2.1,y7.2.2.2.2.2.2.2.2.1.2.2.1⟩ : Ad),y7.2.2.2.2.2.2.2.2.1.2.2.2.1⟩ : Pf) y7.2.1 y7.2.2.2.2.2.2.2.1).bind fun y8 =>
 br (!y8.2.1)
 (some (([] : List Ls),y8.1,false,()))
 (req (i64ok (a4 + a5)) <|
 ((loopN zq726 FUEL (((()),(()),(()),(lenL y7.2.2.2.2.2.2.2.1,()),(0,()),(lenL y7.2.2.2.2.2.2.2.1,()),()),(y7.2.1,y7.2.2.1,(y7.2.2.2.1.1,y7.2.2.2.1.2.1,y7.2.2.2.1.2.2.1,y7.2.2.2.1.2.2.2.1,()),(y7.2.2.2.2.1.1,()),y7.2.2.2.2.2.1,(y7.2.2.2.2.2.2.1.1,()),y7.2.2.2.2.2.2.2.1,(y7.2.2.2.2.2.2.2.2.1.1,y7.2.2.2.2.2.2.2.2.1.2.1,y7.2.2.2.2.2.2.2.2.1.2.2.1,y7.2.2.2.2.2.2.2.2.1.2.2.2.1,()),(y8.1,()),((⟨y8.1,y7.2.2.2.2.1.1,a4 + a5⟩ : Ls),()),((⟨y8.1,y7.2.2.2.2.1.1,a4 + a5⟩ : Ls),()),()))).bind fun y9 =>
 br (decide (y9.1.2.2.2.2.1.1 < y9.1.2.2.2.1.1))
 (req (zq523 y9.1.2.2.2.2.1.1 (lenL y9.2.2.2.2.2.2.2.1)) <|
 (geti y9.2.2.2.2.2.2.2.1 y9.1.2.2.2.2.1.1).bind fun p10 =>
 (zq720 p10 y9.2.2.2.2.2.2.2.2.2.2.2.1.1).bind fun y11 =>
 some (y9.1.2.2.2.2.1.1,decide (y11.1 = 0),()))
 (some (y9.1.2.2.2.2.1.1,false,()))).bind fun y10 =>
 both
 (dup 1 <|
 req (decide (0 ≤ y10.1) && decide (y10.1 ≤ lenL y7.2.2.2.2.2.2.2.1) && room (lenL y7.2.2.2.2.2.2.2.1) 1) <|
 some (insL y7.2.2.2.2.2.2.2.1 y10.1 (⟨y8.1,y7.2.2.2.2.1.1,a4 + a5⟩ : Ls),y8.1,true,()))
 (req (decide (0 ≤ y10.1) && decide (y10.1 ≤ lenL y7.2.2.2.2.2.2.2.1) && room (lenL y7.2.2.2.2.2.2.2.1) 1) <|
 some (insL y7.2.2.2.2.2.2.2.1 y10.1 (⟨y8.1,y7.2.2.2.2.1.1,a4 + a5⟩ : Ls),y8.1,true,()))))
abbrev state_Raw___state_doer__do___state_doer__pool_slices_ContainsFunc___api_Pool_api_Pool__slices_IndexFunc___api_Pool_api_Pool__L2_A := ((Unit × Unit × (Int × Unit) × (Int × Unit) × Unit) × (List (List Ad) × List Pf × List Ls × (Int × Unit) × (Oq × Unit) × (Int × Unit) × List (List Ad) × List Pf × List Ls × (Ad × Unit) × List (List Ad) × List Pf × List Ls × (Int × Unit) × (Oq × Unit) × (Ad × Unit) × (Pf × Unit) × Unit))
abbrev state_Raw___state_doer__do___state_doer__pool_slices_ContainsFunc___api_Pool_api_Pool__slices_IndexFunc___api_Pool_api_Pool__L2_B := Option ((((Int × Unit) × Unit) × (List (List Ad) × List Pf × List Ls × (Int × Unit) × (Oq × Unit) × (Int × Unit) × List (List Ad) × List Pf × List Ls × (Ad × Unit) × List (List Ad) × List Pf × List Ls × (Int × Unit) × (Oq × Unit) × (Ad × Unit) × (Pf × Unit) × Unit)) ⊕ (Unit × (List (List Ad) × List Pf × List Ls × (Int × Unit) × (Oq × Unit) × (Int × Unit) × List (List Ad) × List Pf × List Ls × (Ad × Unit) × List (List Ad) × List Pf × List Ls × (Int × Unit) × (Oq × Unit) × (Ad × Unit) × (Pf × Unit) × Unit)))
def zq1421 (rec : state_Raw___state_doer__do___state_doer__pool_slices_ContainsFunc___api_Pool_api_Pool__slices_IndexFunc___api_Pool_api_Pool__L2_A → state_Raw___state_doer__do___state_doer__pool_slices_ContainsFunc___api_Pool_api_Pool__slices_IndexFunc___api_Pool_api_Pool__L2_B) (x : state_Raw___state_doer__do___state_doer__pool_slices_ContainsFunc___api_Pool_api_Pool__slices_IndexFunc___api_Pool_api_Pool__L2_A) : state_Raw___state_doer__do___state_doer__pool_slices_ContainsFunc___api_Pool_api_Pool__slices_IndexFunc___api_Pool_api_Pool__L2_B :=
 let v0 := x.1.2.2.1.1
 let v1 := x.1.2.2.2.1.1
 let v2 := x.2.1
 let v3 := x.2.2.1
 let v4 := x.2.2.2.1
 let v5 := x.2.2.2.2.1.1
 let v6 := x.2.2.2.2.2.1.1
 let v7 := x.2.2.2.2.2.2.1.1
 let v8 := x.2.2.2.2.2.2.2.1
 let v9 := x.2.2.2.2.2.2.2.2.1
 let zz := x.2.2.2.2.2.2.2.2.2
 let v10 := zz.1
 let v11 := zz.2.1.1
 let v12 := zz.2.2.1
 let v13 := zz.2.2.2.1
 let v14 := zz.2.2.2.2.1
 let v15 := zz.2.2.2.2.2.1.1
 let v16 := zz.2.2.2.2.2.2.1.1
 let v17 := zz.2.2.2.2.2.2.2.1.1
 let v18 := zz.2.2.2.2.2.2.2.2.1.1
 br (decide (v1 < v0))
 (req (zq523 v1 (lenL v13)) <|
 (geti v13 v1).bind fun p1 =>
 (zq63 p1 (getL v12 v1) v18).bind fun y2 =>
 br y2.1
 (some (Sum.inl (((v1,()),()),(v2,v3,v4,(v5,()),(v6,()),(v7,()),v8,v9,v10,(v11,()),v12,v13,v14,(v15,()),(v16,()),(v17,()),(v18,()),()))))
 (req (i64ok (v1 + 1)) <|
 rec (((),(),(v0,()),(v1 + 1,()),()),(v2,v3,v4,(v5,()),(v6,()),(v7,()),v8,v9,v10,(v11,()),v12,v13,v14,(v15,()),(v16,()),(v17,()),(v18,()),()))))
 (some (Sum.inr (((),(v2,v3,v4,(v5,()),(v6,()),(v7,()),v8,v9,v10,(v11,()),v12,v13,v14,(v15,()),(v16,()),(v17,()),(v18,()),())))))
abbrev state_Raw___state_doer__do___state_doer__pool_slices_BinarySearchFunc___api_Pool_api_Pool_api_Prefix__L3_A := ((Unit × Unit × Unit × (Int × Unit) × (Int × Unit) × (Int × Unit) × Unit) × (List (List Ad) × List Pf × List Ls × (Int × Unit) × (Oq × Unit) × (Int × Unit) × List (List Ad) × List Pf × List Ls × (Ad × Unit) × List (List Ad) × List Pf × List Ls × (Int × Unit) × (Oq × Unit) × (Ad × Unit) × (Pf × Unit) × (Pf × Unit) × Unit))
abbrev state_Raw___state_doer__do___state_doer__pool_slices_BinarySearchFunc___api_Pool_api_Pool_api_Prefix__L3_B := Option ((Unit × Unit × Unit × (Int × Unit) × (Int × Unit) × Unit) × (List (List Ad) × List Pf × List Ls × (Int × Unit) × (Oq × Unit) × (Int × Unit) × List (List Ad) × List Pf × List Ls × (Ad × Unit) × List (List Ad) × List Pf × List Ls × (Int × Unit) × (Oq × Unit) × (Ad × Unit) × (Pf × Unit) × (Pf × Unit) × Unit))
def zq1412 (rec : state_Raw___state_doer__do___state_doer__pool_slices_BinarySearchFunc___api_Pool_api_Pool_api_Prefix__L3_A → state_Raw___state_doer__do___state_doer__pool_slices_BinarySearchFunc___api_Pool_api_Pool_api_Prefix__L3_B) (x : state_Raw___state_doer__do___state_doer__pool_slices_BinarySearchFunc___api_Pool_api_Pool_api_Prefix__L3_A) : state_Raw___state_doer__do___state_doer__pool_slices_BinarySearchFunc___api_Pool_api_Pool_api_Prefix__L3_B :=
 let v0 := x.1.2.2.2.1.1
 let v1 := x.1.2.2.2.2.1.1
 let v2 := x.1.2.2.2.2.2.1.1
 let v3 := x.2.1
 let v4 := x.2.2.1
 let v5 := x.2.2.2.1
 let v6 := x.2.2.2.2.1.1
 let v7 := x.2.2.2.2.2.1.1
 let v8 := x.2.2.2.2.2.2.1.1
 let v9 := x.2.2.2.2.2.2.2.1
 let v10 := x.2.2.2.2.2.2.2.2.1
 let zz := x.2.2.2.2.2.2.2.2.2
 let v11 := zz.1
 let v12 := zz.2.1.1
 let v13 := zz.2.2.1
 let v14 := zz.2.2.2.1
 let v15 := zz.2.2.2.2.1
 let v16 := zz.2.2.2.2.2.1.1
 let v17 := zz.2.2.2.2.2.2.1.1
 let v18 := zz.2.2.2.2.2.2.2.1.1
 let v19 := zz.2.2.2.2.2.2.2.2.1.1
 let v20 := zz.2.2.2.2.2.2.2.2.2.1.1
 br (decide (v1 < v2))
 (req (i64ok (v1 + v2)) <|
 req (zq523 (convI .i64 (aop .shr .u64 (convI .u64 (v1 + v2)) 1)) (lenL v14)) <|
 (geti v14 (convI .i64 (aop .shr .u64 (convI .u64 (v1 + v2)) 1))).bind fun p1 =>
 (zq68 p1 (getL v13 (convI .i64 (aop .shr .u64 (convI .u64 (v1 + v2)) 1))) v20).bind fun y2 =>
 br (decide (y2.1 < 0))
 (req (i64ok ((convI .i64 (aop .shr .u64 (convI .u64 (v1 + v2)) 1)) + 1)) <|
 rec (((),(),(),(v0,()),((convI .i64 (aop .shr .u64 (convI .u64 (v1 + v2)) 1)) + 1,()),(v2,()),()),(v3,v4,v5,(v6,()),(v7,()),(v8,()),v9,v10,v11,(v12,()),v13,v14,v15,(v16,()),(v17,()),(v18,()),(v19,()),(v20,()),())))
 (rec (((),(),(),(v0,()),(v1,()),(convI .i64 (aop .shr .u64 (convI .u64 (v1 + v2)) 1),()),()),(v3,v4,v5,(v6,()),(v7,()),(v8,()),v9,v10,v11,(v12,()),v13,v14,v15,(v16,()),(v17,()),(v18,()),(v19,()),(v20,()),()))))
 (some (((),(),(),(v0,()),(v1,()),()),(v3,v4,v5,(v6,()),(v7,()),(v8,()),v9,v10,v11,(v12,()),v13,v14,v15,(v16,()),(v17,()),(v18,()),(v19,()),(v20,()),())))
abbrev state_Raw___state_doer__do___state_doer__pool_slices_BinarySearchFunc___api_Pool_api_Pool_api_Prefix__1_L3_A := ((Unit × Unit × Unit × (Int × Unit) × (Int × Unit) × (Int × Unit) × Unit) × (List (List Ad) × List Pf × List Ls × (Int × Unit) × (Oq × Unit) × (Int × Unit) × List (List Ad) × List Pf × List Ls × (Ad × Unit) × List (List Ad) × List Pf × List Ls × (Int × Unit) × (Oq × Unit) × (Ad × Unit) × (Pf × Unit) × (Pf × Unit) × Unit))
abbrev state_Raw___state_doer__do___state_doer__pool_slices_BinarySearchFunc___api_Pool_api_Pool_api_Prefix__1_L3_B := Option ((Unit × Unit × Unit × (Int × Unit) × (Int × Unit) × Unit) × (List (List Ad) × List Pf × List Ls × (Int × Unit) × (Oq × Unit) × (Int × Unit) × List (List Ad) × List Pf × List Ls × (Ad × Unit) × List (List Ad) × List Pf × List Ls × (Int × Unit) × (Oq × Unit) × (Ad × Unit) × (Pf × Unit) × (Pf × Unit) × Unit))
def zq1411 (rec : state_Raw___state_doer__do___state_doer__pool_slices_BinarySearchFunc___api_Pool_api_Pool_api_Prefix__1_L3_A → state_Raw___state_doer__do___state_doer__pool_slices_BinarySearchFunc___api_Pool_api_Pool_api_Prefix__1_L3_B) (x : state_Raw___state_doer__do___state_doer__pool_slices_BinarySearchFunc___api_Pool_api_Pool_api_Prefix__1_L3_A) : state_Raw___state_doer__do___state_doer__pool_slices_BinarySearchFunc___api_Pool_api_Pool_api_Prefix__1_L3_B :=
 let v0 := x.1.2.2.2.1.1
 let v1 := x.1.2.2.2.2.1.1
 let v2 := x.1.2.2.2.2.2.1.1
 let v3 := x.2.1
 let v4 := x.2.2.1
 let v5 := x.2.2.2.1
 let v6 := x.2.2.2.2.1.1
 let v7 := x.2.2.2.2.2.1.1
 let v8 := x.2.2.2.2.2.2.1.1
 let v9 := x.2.2.2.2.2.2.2.1
 let v10 := x.2.2.2.2.2.2.2.2.1
 let zz := x.2.2.2.2.2.2.2.2.2
 let v11 := zz.1
 let v12 := zz.2.1.1
 let v13 := zz.2.2.1
 let v14 := zz.2.2.2.1
 let v15 := zz.2.2.2.2.1
 let v16 := zz.2.2.2.2.2.1.1
 let v17 := zz.2.2.2.2.2.2.1.1
 let v18 := zz.2.2.2.2.2.2.2.1.1
 let v19 := zz.2.2.2.2.2.2.2.2.1.1
 let v20 := zz.2.2.2.2.2.2.2.2.2.1.1
 br (decide (v1 < v2))
 (req (i64ok (v1 + v2)) <|
 req (zq523 (convI .i64 (aop .shr .u64 (convI .u64 (v1 + v2)) 1)) (lenL v14)) <|
 (geti v14 (convI .i64 (aop .shr .u64 (convI .u64 (v1 + v2)) 1))).bind fun p1 =>
 (zq68 p1 (getL v13 (convI .i64 (aop .shr .u64 (convI .u64 (v1 + v2)) 1))) v20).bind fun y2 =>
 br (decide (y2.1 < 0))
 (req (i64ok ((convI .i64 (aop .shr .u64 (convI .u64 (v1 + v2)) 1)) + 1)) <|
 rec (((),(),(),(v0,()),((convI .i64 (aop .shr .u64 (convI .u64 (v1 + v2)) 1)) + 1,()),(v2,()),()),(v3,v4,v5,(v6,()),(v7,()),(v8,()),v9,v10,v11,(v12,()),v13,v14,v15,(v16,()),(v17,()),(v18,()),(v19,()),(v20,()),())))
 (rec (((),(),(),(v0,()),(v1,()),(convI .i64 (aop .shr .u64 (convI .u64 (v1 + v2)) 1),()),()),(v3,v4,v5,(v6,()),(v7,()),(v8,()),v9,v10,v11,(v12,()),v13,v14,v15,(v16,()),(v17,()),(v18,()),(v19,()),(v20,()),()))))
 (some (((),(),(),(v0,()),(v1,()),()),(v3,v4,v5,(v6,()),(v7,()),(v8,()),v9,v10,v11,(v12,()),v13,v14,v15,(v16,()),(v17,()),(v18,()),(v19,()),(v20,()),())))
abbrev state_Raw___state_doer__do___state_doer__keep_slices_BinarySearchFunc___api_Addr_api_Addr_api_Addr__L3_A := (((Int × Unit) × Unit × Unit × (Int × Unit) × (Int × Unit) × (Int × Unit) × Unit) × (List (List Ad) × List Pf × List Ls × (Int × Unit) × (Oq × Unit) × (Int × Unit) × List (List Ad) × List Pf × List Ls × (Ad × Unit) × List (List Ad) × List Pf × List Ls × (Int × Unit) × (Oq × Unit) × (Ad × Unit) × (Ad × Unit) × (Ad × Unit) × Unit))
abbrev state_Raw___state_doer__do___state_doer__keep_slices_BinarySearchFunc___api_Addr_api_Addr_api_Addr__L3_B := Option (((Int × Unit) × Unit × Unit × (Int × Unit) × (Int × Unit) × Unit) × (List (List Ad) × List Pf × List Ls × (Int × Unit) × (Oq × Unit) × (Int × Unit) × List (List Ad) × List Pf × List Ls × (Ad × Unit) × List (List Ad) × List Pf × List Ls × (Int × Unit) × (Oq × Unit) × (Ad × Unit) × (Ad × Unit) × (Ad × Unit) × Unit))
def zq1402 (rec : state_Raw___state_doer__do___state_doer__keep_slices_BinarySearchFunc___api_Addr_api_Addr_api_Addr__L3_A → state_Raw___state_doer__do___state_doer__keep_slices_BinarySearchFunc___api_Addr_api_Addr_api_Addr__L3_B) (x : state_Raw___state_doer__do___state_doer__keep_slices_BinarySearchFunc___api_Addr_api_Addr_api_Addr__L3_A) : state_Raw___state_doer__do___state_doer__keep_slices_BinarySearchFunc___api_Addr_api_Addr_api_Addr__L3_B :=
 let v0 := x.1.1.1
 let v1 := x.1.2.2.2.1.1
 let v2 := x.1.2.2.2.2.1.1
 let v3 := x.1.2.2.2.2.2.1.1
 let v4 := x.2.1
 let v5 := x.2.2.1
 let v6 := x.2.2.2.1
 let v7 := x.2.2.2.2.1.1
 let v8 := x.2.2.2.2.2.1.1
 let v9 := x.2.2.2.2.2.2.1.1
 let v10 := x.2.2.2.2.2.2.2.1
 let v11 := x.2.2.2.2.2.2.2.2.1
 let zz := x.2.2.2.2.2.2.2.2.2
 let v12 := zz.1
 let v13 := zz.2.1.1
 let v14 := zz.2.2.1
 let v15 := zz.2.2.2.1
 let v16 := zz.2.2.2.2.1
 let v17 := zz.2.2.2.2.2.1.1
 let v18 := zz.2.2.2.2.2.2.1.1
 let v19 := zz.2.2.2.2.2.2.2.1.1
 let v20 := zz.2.2.2.2.2.2.2.2.1.1
 let v21 := zz.2.2.2.2.2.2.2.2.2.1.1
 br (decide (v2 < v3))
 (req (i64ok (v2 + v3)) <|
 req (zq523 (convI .i64 (aop .shr .u64 (convI .u64 (v2 + v3)) 1)) (lenL (getL v14 v0))) <|
 (geti (getL v14 v0) (convI .i64 (aop .shr .u64 (convI .u64 (v2 + v3)) 1))).bind fun p1 =>
 (zq107 p1 v21).bind fun y2 =>
 br (decide (y2.1 < 0))
 (req (i64ok ((convI .i64 (aop .shr .u64 (convI .u64 (v2 + v3)) 1)) + 1)) <|
 rec (((v0,()),(),(),(v1,()),((convI .i64 (aop .shr .u64 (convI .u64 (v2 + v3)) 1)) + 1,()),(v3,()),()),(v4,v5,v6,(v7,()),(v8,()),(v9,()),v10,v11,v12,(v13,()),v14,v15,v16,(v17,()),(v18,()),(v19,()),(v20,()),(v21,()),())))
 (rec (((v0,()),(),(),(v1,()),(v2,()),(convI .i64 (aop .shr .u64 (convI .u64 (v2 + v3)) 1),()),()),(v4,v5,v6,(v7,()),(v8,()),(v9,()),v10,v11,v12,(v13,()),v14,v15,v16,(v17,()),(v18,()),(v19,()),(v20,()),(v21,()),()))))
 (some (((v0,()),(),(),(v1,()),(v2,()),()),(v4,v5,v6,(v7,()),(v8,()),(v9,()),v10,v11,v12,(v13,()),v14,v15,v16,(v17,()),(v18,()),(v19,()),(v20,()),(v21,()),())))
abbrev state_Raw___state_doer__do___state_doer__grant_L9_A := ((Unit × (ByteArray × Unit) × (Int × Unit) × Unit × Unit × Unit × Unit × Unit × (Int × Unit) × (Int × Unit) × Unit) × (List (List Ad) × List Pf × List Ls × (Int × Unit) × (Oq × Unit) × (Int × Unit) × List (List Ad) × List Pf × List Ls × (Ad × Unit) × List (List Ad) × List Pf × List Ls × (Int × Unit) × (Oq × Unit) × (Ad × Unit) × (Ad × Unit) × (Bool × Int × Int × Int × Int × Unit) × List Ls × List Ls × Unit))
abbrev state_Raw___state_doer__do___state_doer__grant_L9_B := Option ((Unit × (ByteArray × Unit) × (Int × Unit) × Unit × Unit × Unit × Unit × Unit) × (List (List Ad) × List Pf × List Ls × (Int × Unit) × (Oq × Unit) × (Int × Unit) × List (List Ad) × List Pf × List Ls × (Ad × Unit) × List (List Ad) × List Pf × List Ls × (Int × Unit) × (Oq × Unit) × (Ad × Unit) × (Ad × Unit) × (Bool × Int × Int × Int × Int × Unit) × List Ls × List Ls × Unit))
def zq1393 (rec : state_Raw___state_doer__do___state_doer__grant_L9_A → state_Raw___state_doer__do___state_doer__grant_L9_B) (x : state_Raw___state_doer__do___state_doer__grant_L9_A) : state_Raw___state_doer__do___state_doer__grant_L9_B :=
 let v0 := x.1.2.1.1
 let v1 := x.1.2.2.1.1
 let v2 := x.1.2.2.2.2.2.2.2.2.1.1
 let v3 := x.1.2.2.2.2.2.2.2.2.2.1.1
 let v4 := x.2.1
 let v5 := x.2.2.1
 let v6 := x.2.2.2.1
 let v7 := x.2.2.2.2.1.1
 let v8 := x.2.2.2.2.2.1.1
 let v9 := x.2.2.2.2.2.2.1.1
 let v10 := x.2.2.2.2.2.2.2.1
 let v11 := x.2.2.2.2.2.2.2.2.1
 let v12 := x.2.2.2.2.2.2.2.2.2.1
 let v13 := x.2.2.2.2.2.2.2.2.2.2.1.1
 let v14 := x.2.2.2.2.2.2.2.2.2.2.2.1
 let zz := x.2.2.2.2.2.2.2.2.2.2.2.2
 let v15 := zz.1
 let v16 := zz.2.1
 let v17 := zz.2.2.1.1
 let v18 := zz.2.2.2.1.1
 let v19 := zz.2.2.2.2.1.1
 let v20 := zz.2.2.2.2.2.1.1
 let v21 := zz.2.2.2.2.2.2.1.1
 let v22 := zz.2.2.2.2.2.2.1.2.1
 let v23 := zz.2.2.2.2.2.2.1.2.2.1
 let v24 := zz.2.2.2.2.2.2.1.2.2.2.1
 let v25 := zz.2.2.2.2.2.2.1.2.2.2.2.1
 let v26 := zz.2.2.2.2.2.2.2.1
 let v27 := zz.2.2.2.2.2.2.2.2.1
 br (decide (v3 < v2))
 (req (zq523 v3 (lenL v16)) <|
 (geti v16 v3).bind fun p1 =>
 (zq1057 (⟨(⟨v21,v22,v23⟩ : Ad),v24⟩ : Pf) p1.ad).bind fun y2 =>
 br y2.1
 (req (room (lenL v26) (lenL ([p1] : List Ls))) <|
 req (i64ok (v3 + 1)) <|
 rec (((),(v0,()),(v1,()),(),(),(),(),(),(v2,()),(v3 + 1,()),()),(v4,v5,v6,(v7,()),(v8,()),(v9,()),v10,v11,v12,(v13,()),v14,v15,v16,(v17,()),(v18,()),(v19,()),(v20,()),(v21,v22,v23,v24,v25,()),v26 ++ ([p1] : List Ls),v27,())))
 (req (room (lenL v27) (lenL ([p1] : List Ls))) <|
 req (i64ok (v3 + 1)) <|
 rec (((),(v0,()),(v1,()),(),(),(),(),(),(v2,()),(v3 + 1,()),()),(v4,v5,v6,(v7,()),(v8,()),(v9,()),v10,v11,v12,(v13,()),v14,v15,v16,(v17,()),(v18,()),(v19,()),(v20,()),(v21,v22,v23,v24,v25,()),v26,v27 ++ ([p1] : List Ls),()))))
 (some (((),(v0,()),(v1,()),(),(),(),(),()),(v4,v5,v6,(v7,()),(v8,()),(v9,()),v10,v11,v12,(v13,()),v14,v15,v16,(v17,()),(v18,()),(v19,()),(v20,()),(v21,v22,v23,v24,v25,()),v26,v27,())))
def zq1435 (a0 : List Pf × List (List Ad)) (a1 : List Ls) (a2 : Int) (a3 : Oq) : Option (((List Pf × List (List Ad)) × (List Ls) × Int × Unit) × Ad × Int × Unit) :=
 (zq1380 a3).bind fun y1 =>
 br (!decide (y1.1 = 0))
 (some (((([] : List Pf),([] : List (List Ad))),([] : List Ls),0,()),(⟨false,0,0⟩ : Ad),y1.1,()))
 ((zq1389 a0 a1 a2).bind fun y2 =>
 br (decide (a3.kind = 1))
 ((loopN zq1421 FUEL (((()),(()),(lenL y2.1.1.1,()),(0,()),()),(a0.2,a0.1,a1,(a2,()),(a3,()),(0,()),([] : List (List Ad)),([] : List Pf),([] : List Ls),((⟨false,0,0⟩ : Ad),()),y2.1.1.2,y2.1.1.1,y2.1.2.1,(y2.1.2.2.1,()),(a3,()),((⟨false,0,0⟩ : Ad),()),(a3.pf,()),()))).bind fun y3 =>
 sumC y3 (fun y4 =>
 br (decide (y4.1.1.1 ≥ 0))
 (some (((([] : List Pf),([] : List (List Ad))),([] : List Ls),0,()),(⟨false,0,0⟩ : Ad),6,()))
 (br (decide (lenL y4.2.2.2.2.2.2.2.2.2.2.2.2.1 = 3))
 (some (((([] : List Pf),([] : List (List Ad))),([] : List Ls),0,()),(⟨false,0,0⟩ : Ad),2,()))
 (((loopN zq1412 FUEL (((()),(()),(()),(lenL y4.2.2.2.2.2.2.2.2.2.2.2.2.1,()),(0,()),(lenL y4.2.2.2.2.2.2.2.2.2.2.2.2.1,()),()),(y4.2.1,y4.2.2.1,y4.2.2.2.1,(y4.2.2.2.2.1.1,()),(y4.2.2.2.2.2.1.1,()),(y4.2.2.2.2.2.2.1.1,()),y4.2.2.2.2.2.2.2.1,y4.2.2.2.2.2.2.2.2.1,y4.2.2.2.2.2.2.2.2.2.1,(y4.2.2.2.2.2.2.2.2.2.2.1.1,()),y4.2.2.2.2.2.2.2.2.2.2.2.1,y4.2.2.2.2.2.2.2.2.2.2.2.2.1,y4.2.2.2.2.2.2.2.2.2.2.2.2.2.1,(y4.2.2.2.2.2.2.2.2.2.2.2.2.2.2.1.1,()),(y4.2.2.2.2.2.2.2.2.2.2.2.2.2.2.2.1.1,()),(y4.2.2.2.2.2.2.2.2.2.2.2.2.2.2.2.2.1.1,()),(y4.2.2.2.2.2.2.2.2.2.2.2.2.2.2.2.2.2.1.1,()),(y4.2.2.2.2.2.2.2.2.2.2.2.2.2.2.2.2.2.1.1,()),()))).bind fun y5 =>
 br (decide (y5.1.2.2.2.2.1.1 < y5.1.2.2.2.1.1))
 (req (zq523 y5.1.2.2.2.2.1.1 (lenL y5.2.2.2.2.2.2.2.2.2.2.2.2.1)) <|
 (geti y5.2.2.2.2.2.2.2.2.2.2.2.2.1 y5.1.2.2.2.2.1.1).bind fun p6 =>
 (zq68 p6 (getL y5.2.2.2.2.2.2.2.2.2.2.2.1 y5.1.2.2.2.2.1.1) y5.2.2.2.2.2.2.2.2.2.2.2.2.2.2.2.2.2.2.1.1).bind fun y7 =>
 some (y5.1.2.2.2.2.1.1,decide (y7.1 = 0),()))
 (some (y5.1.2.2.2.2.1.1,false,()))).bind fun y6 =>
 both
 (both
 (both
 (dup 1 <|
 req (decide (0 ≤ y6.1) && decide (y6.1 ≤ lenL y4.2.2.2.2.2.2.2.2.2.2.2.2.1) && room (lenL y4.2.2.2.2.2.2.2.2.2.2.2.2.1) 1) <|
 some (((insL y4.2.2.2.2.2.2.2.2.2.2.2.2.1 y6.1 y4.2.2.2.2.2.2.2.2.2.2.2.2.2.2.2.2.2.1.1,insL (padL y4.2.2.2.2.2.2.2.2.2.2.2.2.1.length y4.2.2.2.2.2.2.2.2.2.2.2.1) y6.1 ([] : List Ad)),y4.2.2.2.2.2.2.2.2.2.2.2.2.2.1,y4.2.2.2.2.2.2.2.2.2.2.2.2.2.2.1.1,()),(⟨false,0,0⟩ : Ad),0,()))
 (req (decide (0 ≤ y6.1) && decide (y6.1 ≤ lenL y4.2.2.2.2.2.2.2.2.2.2.2.2.1) && room (lenL y4.2.2.2.2.2.2.2.2.2.2.2.2.1) 1) <|
 some (((insL y4.2.2.2.2.2.2.2.2.2.2.2.2.1 y6.1 y4.2.2.2.2.2.2.2.2.2.2.2.2.2.2.2.2.2.1.1,insL (padL y4.2.2.2.2.2.2.2.2.2.2.2.2.1.length y4.2.2.2.2.2.2.2.2.2.2.2.1) y6.1 ([] : List Ad)),y4.2.2.2.2.2.2.2.2.2.2.2.2.2.1,y4.2.2.2.2.2.2.2.2.2.2.2.2.2.2.1.1,()),(⟨false,0,0⟩ : Ad),0,())))
 (req (decide (0 ≤ y6.1) && decide (y6.1 ≤ lenL y4.2.2.2.2.2.2.2.2.2.2.2.2.1) && room (lenL y4.2.2.2.2.2.2.2.2.2.2.2.2.1) 1) <|
 some (((insL y4.2.2.2.2.2.2.2.2.2.2.2.2.1 y6.1 y4.2.2.2.2.2.2.2.2.2.2.2.2.2.2.2.2.2.1.1,insL (padL y4.2.2.2.2.2.2.2.2.2.2.2.2.1.length y4.2.2.2.2.2.2.2.2.2.2.2.1) y6.1 ([] : List Ad)),y4.2.2.2.2.2.2.2.2.2.2.2.2.2.1,y4.2.2.2.2.2.2.2.2.2.2.2.2.2.2.1.1,()),(⟨false,0,0⟩ : Ad),0,())))
 (req (decide (0 ≤ y6.1) && decide (y6.1 ≤ lenL y4.2.2.2.2.2.2.2.2.2.2.2.2.1) && room (lenL y4.2.2.2.2.2.2.2.2.2.2.2.2.1) 1) <|
 some (((insL y4.2.2.2.2.2.2.2.2.2.2.2.2.1 y6.1 y4.2.2.2.2.2.2.2.2.2.2.2.2.2.2.2.2.2.1.1,insL (padL y4.2.2.2.2.2.2.2.2.2.2.2.2.1.length y4.2.2.2.2.2.2.2.2.2.2.2.1) y6.1 ([] : List Ad)),y4.2.2.2.2.2.2.2.2.2.2.2.2.2.1,y4.2.2.2.2.2.2.2.2.2.2.2.2.2.2.1.1,()),(⟨false,0,0⟩ : Ad),0,()))))) (fun y7 =>
 br (decide (lenL y7.2.2.2.2.2.2.2.2.2.2.2.2.1 = 3))
 (some (((([] : List Pf),([] : List (List Ad))),([] : List Ls),0,()),(⟨false,0,0⟩ : Ad),2,()))
 (((loopN zq1411 FUEL (((()),(()),(()),(lenL y7.2.2.2.2.2.2.2.2.2.2.2.2.1,()),(0,()),(lenL y7.2.2.2.2.2.2.2.2.2.2.2.2.1,()),()),(y7.2.1,y7.2.2.1,y7.2.2.2.1,(y7.2.2.2.2.1.1,()),(y7.2.2.2.2.2.1.1,()),(y7.2.2.2.2.2.2.1.1,()),y7.2.2.2.2.2.2.2.1,y7.2.2.2.2.2.2.2.2.1,y7.2.2.2.2.2.2.2.2.2.1,(y7.2.2.2.2.2.2.2.2.2.2.1.1,()),y7.2.2.2.2.2.2.2.2.2.2.2.1,y7.2.2.2.2.2.2.2.2.2.2.2.2.1,y7.2.2.2.2.2.2.2.2.2.2.2.2.2.1,(y7.2.2.2.2.2.2.2.2.2.2.2.2.2.2.1.1,()),(y7.2.2.2.2.2.2.2.2.2.2.2.2.2.2.2.1.1,()),(y7.2.2.2.2.2.2.2.2.2.2.2.2.2.2.2.2.1.1,()),(y7.2.2.2.2.2.2.2.2.2.2.2.2.2.2.2.2.2.1.1,()),(y7.2.2.2.2.2.2.2.2.2.2.2.2.2.2.2.2.2.1.1,()),()))).bind fun y8 =>
 br (decide (y8.1.2.2.2.2.1.1 < y8.1.2.2.2.1.1))
 (req (zq523 y8.1.2.2.2.2.1.1 (lenL y8.2.2.2.2.2.2.2.2.2.2.2.2.1)) <|
 (geti y8.2.2.2.2.2.2.2.2.2.2.2.2.1 y8.1.2.2.2.2.1.1).bind fun p9 =>
 (zq68 p9 (getL y8.2.2.2.2.2.2.2.2.2.2.2.1 y8.1.2.2.2.2.1.1) y8.2.2.2.2.2.2.2.2.2.2.2.2.2.2.2.2.2.2.1.1).bind fun y10 =>
 some (y8.1.2.2.2.2.1.1,decide (y10.1 = 0),()))
 (some (y8.1.2.2.2.2.1.1,false,()))).bind fun y9 =>
 both
 (both
 (both
 (dup 1 <|
 req (decide (0 ≤ y9.1) && decide (y9.1 ≤ lenL y7.2.2.2.2.2.2.2.2.2.2.2.2.1) && room (lenL y7.2.2.2.2.2.2.2.2.2.2.2.2.1) 1) <|
 some (((insL y7.2.2.2.2.2.2.2.2.2.2.2.2.1 y9.1 y7.2.2.2.2.2.2.2.2.2.2.2.2.2.2.2.2.2.1.1,insL (padL y7.2.2.2.2.2.2.2.2.2.2.2.2.1.length y7.2.2.2.2.2.2.2.2.2.2.2.1) y9.1 ([] : List Ad)),y7.2.2.2.2.2.2.2.2.2.2.2.2.2.1,y7.2.2.2.2.2.2.2.2.2.2.2.2.2.2.1.1,()),(⟨false,0,0⟩ : Ad),0,()))
 (req (decide (0 ≤ y9.1) && decide (y9.1 ≤ lenL y7.2.2.2.2.2.2.2.2.2.2.2.2.1) && room (lenL y7.2.2.2.2.2.2.2.2.2.2.2.2.1) 1) <|
 some (((insL y7.2.2.2.2.2.2.2.2.2.2.2.2.1 y9.1 y7.2.2.2.2.2.2.2.2.2.2.2.2.2.2.2.2.2.1.1,insL (padL y7.2.2.2.2.2.2.2.2.2.2.2.2.1.length y7.2.2.2.2.2.2.2.2.2.2.2.1) y9.1 ([] : List Ad)),y7.2.2.2.2.2.2.2.2.2.2.2.2.2.1,y7.2.2.2.2.2.2.2.2.2.2.2.2.2.2.1.1,()),(⟨false,0,0⟩ : Ad),0,())))
 (req (decide (0 ≤ y9.1) && decide (y9.1 ≤ lenL y7.2.2.2.2.2.2.2.2.2.2.2.2.1) && room (lenL y7.2.2.2.2.2.2.2.2.2.2.2.2.1) 1) <|
 some (((insL y7.2.2.2.2.2.2.2.2.2.2.2.2.1 y9.1 y7.2.2.2.2.2.2.2.2.2.2.2.2.2.2.2.2.2.1.1,insL (padL y7.2.2.2.2.2.2.2.2.2.2.2.2.1.length y7.2.2.2.2.2.2.2.2.2.2.2.1) y9.1 ([] : List Ad)),y7.2.2.2.2.2.2.2.2.2.2.2.2.2.1,y7.2.2.2.2.2.2.2.2.2.2.2.2.2.2.1.1,()),(⟨false,0,0⟩ : Ad),0,())))
 (req (decide (0 ≤ y9.1) && decide (y9.1 ≤ lenL y7.2.2.2.2.2.2.2.2.2.2.2.2.1) && room (lenL y7.2.2.2.2.2.2.2.2.2.2.2.2.1) 1) <|
 some (((insL y7.2.2.2.2.2.2.2.2.2.2.2.2.1 y9.1 y7.2.2.2.2.2.2.2.2.2.2.2.2.2.2.2.2.2.1.1,insL (padL y7.2.2.2.2.2.2.2.2.2.2.2.2.1.length y7.2.2.2.2.2.2.2.2.2.2.2.1) y9.1 ([] : List Ad)),y7.2.2.2.2.2.2.2.2.2.2.2.2.2.1,y7.2.2.2.2.2.2.2.2.2.2.2.2.2.2.1.1,()),(⟨false,0,0⟩ : Ad),0,())))))
 (br (decide (a3.kind = 2))
 ((zq1459 y2.1.1 y2.1.2.1 y2.1.2.2.1 a3.ad).bind fun y3 =>
 br (decide (y3.1 < 0))
 (some (((([] : List Pf),([] : List (List Ad))),([] : List Ls),0,()),(⟨false,0,0⟩ : Ad),5,()))
 (req (zq523 y3.1 (lenL y2.1.1.1)) <|
 req (zq523 y3.1 (lenL y2.1.1.1)) <|
 req (zq523 y3.1 (lenL y2.1.1.1)) <|
 (geti y2.1.1.1 y3.1).bind fun p4 =>
 ((loopN zq1402 FUEL (((y3.1,()),(()),(()),(lenL (getL y2.1.1.2 y3.1),()),(0,()),(lenL (getL y2.1.1.2 y3.1),()),()),(a0.2,a0.1,a1,(a2,()),(a3,()),(0,()),([] : List (List Ad)),([] : List Pf),([] : List Ls),((⟨false,0,0⟩ : Ad),()),y2.1.1.2,y2.1.1.1,y2.1.2.1,(y2.1.2.2.1,()),(a3,()),((⟨false,0,0⟩ : Ad),()),(a3.ad,()),(a3.ad,()),()))).bind fun y5 =>
 br (decide (y5.1.2.2.2.2.1.1 < y5.1.2.2.2.1.1))
 (req (zq523 y5.1.2.2.2.2.1.1 (lenL (getL y5.2.2.2.2.2.2.2.2.2.2.2.1 y5.1.1.1))) <|
 (geti (getL y5.2.2.2.2.2.2.2.2.2.2.2.1 y5.1.1.1) y5.1.2.2.2.2.1.1).bind fun p6 =>
 (zq107 p6 y5.2.2.2.2.2.2.2.2.2.2.2.2.2.2.2.2.2.2.1.1).bind fun y7 =>
 some (y5.1.2.2.2.2.1.1,decide (y7.1 = 0),()))
 (some (y5.1.2.2.2.2.1.1,false,()))).bind fun y6 =>
 br y6.2.1
 (some (((([] : List Pf),([] : List (List Ad))),([] : List Ls),0,()),(⟨false,0,0⟩ : Ad),6,()))
 (req (zq523 y3.1 (lenL y2.1.1.1)) <|
 req (zq523 y3.1 (lenL y2.1.1.1)) <|
 (geti y2.1.1.1 y3.1).bind fun p7 =>
 br (decide (lenL (getL y2.1.1.2 y3.1) = 6))
 (some (((([] : List Pf),([] : List (List Ad))),([] : List Ls),0,()),(⟨false,0,0⟩ : Ad),2,()))
 (req (zq523 y3.1 (lenL y2.1.1.1)) <|
 req (zq523 y3.1 (lenL y2.1.1.1)) <|
 (geti y2.1.1.1 y3.1).bind fun p8 =>
 req (decide (0 ≤ y3.1)) <|
 req (decide (0 ≤ y6.1) && decide (y6.1 ≤ lenL (getL y2.1.1.2 y3.1)) && room (lenL (getL y2.1.1.2 y3.1)) 1) <|
 req (zq523 y3.1 (lenL y2.1.1.1)) <|
 req (zq523 y3.1 (lenL y2.1.1.1)) <|
 req (decide (y3.1 = y3.1)) <|
 (geti y2.1.1.1 y3.1).bind fun p9 =>
 some (((seti y2.1.1.1 y3.1 p9,seti (padL y2.1.1.1.length (outL y2.1.1.2 y3.1)) y3.1 (insL (getL y2.1.1.2 y3.1) y6.1 a3.ad)),y2.1.2.1,y2.1.2.2.1,()),(⟨false,0,0⟩ : Ad),0,())))))
 (br (decide (a3.kind = 3))
 (br (decide (a3.of_ ≥ lenL y2.1.1.1))
 (some (((([] : List Pf),([] : List (List Ad))),([] : List Ls),0,()),(⟨false,0,0⟩ : Ad),5,()))
 (req (zq523 a3.of_ (lenL y2.1.1.1)) <|
 (geti y2.1.1.1 a3.of_).bind fun p3 =>
 (zq58 y2.1.1 y2.1.2.1 y2.1.2.2.1 a3.who).bind fun y4 =>
 (br (decide (y4.1 ≥ 0))
 (req (zq523 y4.1 (lenL y2.1.2.1)) <|
 req (zq523 y4.1 (lenL y2.1.2.1)) <|
 (geti y2.1.2.1 y4.1).bind fun p5 =>
 (zq1057 p3 p5.ad).bind fun y6 =>
 some (!y6.1))
 (some false)).bind fun c5 =>
 br c5
 (some (((([] : List Pf),([] : List (List Ad))),([] : List Ls),0,()),(⟨false,0,0⟩ : Ad),6,()))
 ((loopN zq1393 FUEL (((()),(a3.who,()),(a3.n,()),(()),(()),(()),(()),(()),(lenL y2.1.2.1,()),(0,()),()),(a0.2,a0.1,a1,(a2,()),(a3,()),(0,()),([] : List (List Ad)),([] : List Pf),([] : List Ls),((⟨false,0,0⟩ : Ad),()),y2.1.1.2,y2.1.1.1,y2.1.2.1,(y2.1.2.2.1,()),(a3,()),((⟨false,0,0⟩ : Ad),()),((⟨false,0,0⟩ : Ad),()),(p3.ad.v6,p3.ad.hi,p3.ad.lo,p3.bits,a3.of_,()),([] : List Ls),([] : List Ls),()))).bind fun y6 =>
 dup 1 <|
 (zq739 (⟨(⟨y6.2.2.2.2.2.2.2.2.2.2.2.2.2.2.2.2.2.2.1.1,y6.2.2.2.2.2.2.2.2.2.2.2.2.2.2.2.2.2.2.1.2.1,y6.2.2.2.2.2.2.2.2.2.2.2.2.2.2.2.2.2.2.1.2.2.1⟩ : Ad),y6.2.2.2.2.2.2.2.2.2.2.2.2.2.2.2.2.2.2.1.2.2.2.1⟩ : Pf) (getL y6.2.2.2.2.2.2.2.2.2.2.2.1 y6.2.2.2.2.2.2.2.2.2.2.2.2.2.2.2.2.2.2.1.2.2.2.2.1) y6.2.2.2.2.2.2.2.2.2.2.2.2.2.2.2.2.2.2.2.1 y6.1.2.1.1 y6.2.2.2.2.2.2.2.2.2.2.2.2.2.2.1.1 y6.1.2.2.1.1).bind fun y7 =>
 br (!y7.2.2.1)
 (some (((([] : List Pf),([] : List (List Ad))),([] : List Ls),0,()),(⟨false,0,0⟩ : Ad),8,()))
 (req (i64ok ((lenL y7.1) + (lenL y6.2.2.2.2.2.2.2.2.2.2.2.2.2.2.2.2.2.2.2.2.1))) <|
 br (decide ((lenL y7.1) + (lenL y6.2.2.2.2.2.2.2.2.2.2.2.2.2.2.2.2.2.2.2.2.1) > 20))
 (some (((([] : List Pf),([] : List (List Ad))),([] : List Ls),0,()),(⟨false,0,0⟩ : Ad),2,()))
 (req (room (lenL y7.1) (lenL y6.2.2.2.2.2.2.2.2.2.2.2.2.2.2.2.2.2.2.2.2.1)) <|
 req (zq1318 (y7.1 ++ y6.2.2.2.2.2.2.2.2.2.2.2.2.2.2.2.2.2.2.2.2.1)) <|
 some (((y6.2.2.2.2.2.2.2.2.2.2.2.2.1,y6.2.2.2.2.2.2.2.2.2.2.2.1),sortL (y7.1 ++ y6.2.2.2.2.2.2.2.2.2.2.2.2.2.2.2.2.2.2.2.2.1),y6.2.2.2.2.2.2.2.2.2.2.2.2.2.2.1.1,()),y7.2.1,0,()))))))
 (br (decide (a3.kind = 4))
 ((zq58 y2.1.1 y2.1.2.1 y2.1.2.2.1 a3.who).bind fun y3 =>
 br (decide (y3.1 < 0))
 (some (((([] : List Pf),([] : List (List Ad))),([] : List Ls),0,()),(⟨false,0,0⟩ : Ad),5,()))
 (req (zq523 y3.1 (lenL y2.1.2.1)) <|
 req (zq523 y3.1 (lenL y2.1.2.1)) <|
 (geti y2.1.2.1 y3.1).bind fun p4 =>
 req (i64ok (y3.1 + 1)) <|
 req (decide (0 ≤ y3.1) && decide (y3.1 ≤ y3.1 + 1) && decide (y3.1 + 1 ≤ lenL y2.1.2.1)) <|
 some ((y2.1.1,delL y2.1.2.1 y3.1 (y3.1 + 1),y2.1.2.2.1,()),p4.ad,0,())))
 (br (decide (a3.n < y2.1.2.2.1))
 (some (((([] : List Pf),([] : List (List Ad))),([] : List Ls),0,()),(⟨false,0,0⟩ : Ad),4,()))
 ((zq695 y2.1.2.1 a3.n).bind fun y3 =>
 some ((y2.1.1,y3.1,a3.n,()),(⟨false,0,0⟩ : Ad),0,())))))))
def zq1374 (a0 : List Pf × List (List Ad)) (a1 : List Ls) (a2 : Int) (a3 : Oq) : Option (((List Pf × List (List Ad)) × (List Ls) × Int × Unit) × Ad × Int × Unit) :=
 (zq1368 a0 a1 a2).bind fun y1 =>
 br (!decide (y1.1 = 0))
 (some (((([] : List Pf),([] : List (List Ad))),([] : List Ls),0,()),(⟨false,0,0⟩ : Ad),y1.1,()))
 ((zq1435 a0 a1 a2 a3).bind fun y2 =>
 some ((y2.1.1,y2.1.2.1,y2.1.2.2.1,()),y2.2.1,y2.2.2.1,()))
abbrev law_do_L4_A := ((Unit × Unit × Unit × Unit × Unit × (Int × Unit) × Unit) × (List Oq × (Int × Unit) × (Ad × Unit) × (Int × Unit) × (Ad × Unit) × List Pf × List Ls × List Pf × List Ls × List (List Ad) × List (List Ad) × Unit))
abbrev law_do_L4_B := Option (((Unit × Unit × (Int × Unit) × Unit) × (List Oq × (Int × Unit) × (Ad × Unit) × List Pf × List Ls × List (List Ad) × Unit)) ⊕ ((Unit × Unit × Unit × Unit × Unit) × (List Oq × (Int × Unit) × (Ad × Unit) × (Int × Unit) × (Ad × Unit) × List Pf × List Ls × List Pf × List Ls × List (List Ad) × List (List Ad) × Unit)))
def zq623 (rec : law_do_L4_A → law_do_L4_B) (x : law_do_L4_A) : law_do_L4_B :=
 let v0 := x.1.2.2.2.2.2.1.1
 let v1 := x.2.1
 let v2 := x.2.2.1.1
 let v3 := x.2.2.2.1.1
 let v4 := x.2.2.2.2.1.1
 let v5 := x.2.2.2.2.2.1.1
 let zz := x.2.2.2.2.2.2
 let v6 := zz.1
 let v7 := zz.2.1
 let v8 := zz.2.2.1
 let v9 := zz.2.2.2.1
 let v10 := zz.2.2.2.2.1
 let v11 := zz.2.2.2.2.2.1
 br (decide (v0 < lenL v1))
 (req (zq523 v0 (lenL v1)) <|
 (geti v1 v0).bind fun p1 =>
 both
 ((zq1374 (v8,v11) v9 v4 p1).bind fun y2 =>
 dup 1 <|
 br (!decide (y2.2.2.1 = 0))
 (some (Sum.inl (((),(),(y2.2.2.1,()),()),(v1,(y2.1.2.2.1,()),(y2.2.1,()),y2.1.1.1,y2.1.2.1,y2.1.1.2,()))))
 (req (i64ok (v0 + 1)) <|
 rec (((),(),(),(),(),(v0 + 1,()),()),(v1,(v2,()),(v3,()),(y2.1.2.2.1,()),(y2.2.1,()),v6,v7,y2.1.1.1,y2.1.2.1,v10,y2.1.1.2,()))))
 (both
 (dup 1 <|
 (zq1374 (v8,v11) v9 v4 p1).bind fun y2 =>
 br (!decide (y2.2.2.1 = 0))
 (some (Sum.inl (((),(),(y2.2.2.1,()),()),(v1,(y2.1.2.2.1,()),(y2.2.1,()),y2.1.1.1,y2.1.2.1,y2.1.1.2,()))))
 (req (i64ok (v0 + 1)) <|
 rec (((),(),(),(),(),(v0 + 1,()),()),(v1,(v2,()),(v3,()),(y2.1.2.2.1,()),(y2.2.1,()),v6,v7,y2.1.1.1,y2.1.2.1,v10,y2.1.1.2,()))))
 (dup 1 <|
 (zq1374 (v8,v11) v9 v4 p1).bind fun y2 =>
 br (!decide (y2.2.2.1 = 0))
 (some (Sum.inl (((),(),(y2.2.2.1,()),()),(v1,(y2.1.2.2.1,()),(y2.2.1,()),y2.1.1.1,y2.1.2.1,y2.1.1.2,()))))
 (req (i64ok (v0 + 1)) <|
 rec (((),(),(),(),(),(v0 + 1,()),()),(v1,(v2,()),(v3,()),(y2.1.2.2.1,()),(y2.2.1,()),v6,v7,y2.1.1.1,y2.1.2.1,v10,y2.1.1.2,()))))))
 (some (Sum.inr ((((),(),(),(),()),(v1,(v2,()),(v3,()),(v4,()),(v5,()),v6,v7,v8,v9,v10,v11,())))))
def zq631 (a0 : List Oq) : Option (((List Pf × List (List Ad)) × (List Ls) × Int × Unit) × Ad × Int × Unit) :=
 (loopN zq623 FUEL (((()),(()),(()),(()),(()),(0,()),()),(a0,(0,()),((⟨false,0,0⟩ : Ad),()),(0,()),((⟨false,0,0⟩ : Ad),()),([] : List Pf),([] : List Ls),([] : List Pf),([] : List Ls),([] : List (List Ad)),([] : List (List Ad)),()))).bind fun y1 =>
 sumC y1 (fun y2 =>
 some (((y2.2.2.2.2.1,y2.2.2.2.2.2.2.1),y2.2.2.2.2.2.1,y2.2.2.1.1,()),y2.2.2.2.1.1,y2.1.2.2.1.1,())) (fun y3 =>
 some (((y3.2.2.2.2.2.2.2.2.1,y3.2.2.2.2.2.2.2.2.2.2.2.1),y3.2.2.2.2.2.2.2.2.2.1,y3.2.2.2.2.1.1,()),y3.2.2.2.2.2.1.1,0,()))
def zq647 : Option (Bool × Unit) :=
 zq642.bind fun y1 =>
 (zq631 y1.1).bind fun y2 =>
 (zq1374 y2.1.1 y2.1.2.1 y2.1.2.2.1 (⟨4,(⟨(⟨false,0,0⟩ : Ad),0⟩ : Pf),(⟨false,0,0⟩ : Ad),(⟨#[120]⟩ : ByteArray),0,0⟩ : Oq)).bind fun y3 =>
 (zq1374 y2.1.1 y2.1.2.1 y2.1.2.2.1 (⟨5,(⟨(⟨false,0,0⟩ : Ad),0⟩ : Pf),(⟨false,0,0⟩ : Ad),(ByteArray.empty),0,11⟩ : Oq)).bind fun y4 =>
 (zq1368 y2.1.1 y2.1.2.1 y2.1.2.2.1).bind fun y5 =>
 br (decide (y5.1 = 0))
 (zq642.bind fun y6 =>
 req (zq523 0 (lenL y6.1)) <|
 (geti y6.1 0).bind fun p7 =>
 (zq1380 p7).bind fun y8 =>
 br (decide (y8.1 = 0))
 (br (decide (y2.2.2.1 = 0))
 (br (decide (y3.2.2.1 = 0))
 (br (decide (y4.2.2.1 = 0))
 ((zq657 9).bind fun y9 =>
 br (eqAd y2.2.1 y9.1)
 (br (eqAd y3.2.1 y2.2.1)
 (br (decide (lenL y2.1.2.1 = 1))
 (br (decide (lenL y3.1.2.1 = 0))
 (br (decide (lenL y4.1.2.1 = 0))
 (some (decide (y4.1.2.2.1 = 11),()))
 (some (false,())))
 (some (false,())))
 (some (false,())))
 (some (false,())))
 (some (false,())))
 (some (false,())))
 (some (false,())))
 (some (false,())))
 (some (false,())))
 (some (false,()))
def zq615 (f0 : type_of% zq652) (f1 : type_of% zq647) (f2 : type_of% zq1545) (f3 : type_of% zq1539) (f4 : type_of% zq1380) (a0 : Oq) (a1 : ByteArray) : Option (Bool × Unit) :=
 f0.bind fun y1 =>
 (br (!y1.1)
 (some true)
 (f1.bind fun y2 =>
 some (!y2.1))).bind fun c2 =>
 br c2
 (some (false,()))
 ((f2 a0).bind fun y3 =>
 br (decide (y3.2.1 = 0))
 ((f3 y3.1).bind fun y4 =>
 (br (!decide (y4.2.1 = 0))
 (some true)
 (some (!(eqOq y4.1 a0)))).bind fun c5 =>
 br c5
 (some (false,()))
 ((f3 a1).bind fun y6 =>
 br (!decide (y6.2.1 = 0))
 (some (eqOq y6.1 (⟨0,(⟨(⟨false,0,0⟩ : Ad),0⟩ : Pf),(⟨false,0,0⟩ : Ad),(ByteArray.empty),0,0⟩ : Oq),()))
 ((f2 y6.1).bind fun y7 =>
 (br (decide (y7.2.1 = 0))
 (some (zq1477 .eql y7.1 a1))
 (some false)).bind fun c8 =>
 (br c8
 ((f4 y6.1).bind fun y9 =>
 some (decide (y9.1 = 0)))
 (some false)).bind fun c9 =>
 some (c9,()))))
 ((f3 a1).bind fun y4 =>
 br (!decide (y4.2.1 = 0))
 (some (eqOq y4.1 (⟨0,(⟨(⟨false,0,0⟩ : Ad),0⟩ : Pf),(⟨false,0,0⟩ : Ad),(ByteArray.empty),0,0⟩ : Oq),()))
 ((f2 y4.1).bind fun y5 =>
 (br (decide (y5.2.1 = 0))
 (some (zq1477 .eql y5.1 a1))
 (some false)).bind fun c6 =>
 (br c6
 ((f4 y4.1).bind fun y7 =>
 some (decide (y7.1 = 0)))
 (some false)).bind fun c7 =>
 some (c7,()))))
def zq621 (a0 : Oq) (a1 : ByteArray) : Option (Bool × Unit) := zq615 zq652 zq647 zq1545 zq1539 zq1380 a0 a1
end Go.Ma
namespace Go.Ma
open Go
theorem zq1245 (n k : Nat) (hk : k ≤ 64) : aop .shr .u64 (n : Int) (k : Int) = ((n / 2 ^ k : Nat) : Int) := by
 simp only [aop,zc42,IntKind.bits,Nat.min_eq_left hk]
 rw [show ((2 : Int) ^ k) = ((2 ^ k : Nat) : Int) by push_cast; rfl,Int.fdiv_eq_ediv_of_nonneg _ (Int.natCast_nonneg _)]
 rfl
theorem zq878 (n : Nat) (h : n < 18446744073709551616) : (BitVec.ofInt 64 (n : Int)).toNat = n := by
 rw [BitVec.ofInt_natCast,BitVec.toNat_ofNat]
 exact Nat.mod_eq_of_lt (by simpa using h)
theorem zq176 (n k : Nat) (hn : n < 18446744073709551616) (hk : k ≤ 63) : aop .and .u64 (n : Int) ((2 ^ k - 1 : Nat) : Int) = ((n % 2 ^ k : Nat) : Int) := by
 have hp : 2 ^ k ≤ 2 ^ 63 := Nat.pow_le_pow_right (by omega) hk
 show IntKind.u64.wrap (((BitVec.ofInt 64 (n : Int) &&& BitVec.ofInt 64 ((2 ^ k - 1 : Nat) : Int)).toNat : Nat) : Int) = _
 rw [BitVec.toNat_and,zq878 n hn,zq878 _ (by omega),Nat.and_two_pow_sub_one_eq_mod,wrap_u64 (by omega)]
 have := Nat.mod_le n (2 ^ k)
 omega
theorem zq948 (m u k : Nat) (hu : u < 2 ^ k) (h : 2 ^ k * m + u < 18446744073709551616) : aop .or .u64 ((2 ^ k * m : Nat) : Int) (u : Int) = ((2 ^ k * m + u : Nat) : Int) := by
 show IntKind.u64.wrap (((BitVec.ofInt 64 ((2 ^ k * m : Nat) : Int) ||| BitVec.ofInt 64 (u : Int)).toNat : Nat) : Int) = _
 rw [BitVec.toNat_or,zq878 _ (by omega),zq878 _ (by omega),← Nat.two_pow_add_eq_or_of_lt hu,wrap_u64 (by omega) (by omega)]
theorem zq1243 (n k : Nat) (hk : k ≤ 64) (h : 2 ^ k * n < 18446744073709551616) : aop .shl .u64 (n : Int) (k : Int) = ((2 ^ k * n : Nat) : Int) := by
 simp only [aop,zc42,IntKind.bits,Nat.min_eq_left hk]
 rw [show ((2 : Int) ^ k) = ((2 ^ k : Nat) : Int) by push_cast; rfl,← Int.natCast_mul,Nat.mul_comm,wrap_u64 (by omega) (by omega)]
def gI (a : Ad) (i : Nat) : Nat := if i < 4 then a.hi.toNat / 2 ^ (48 - 16 * i) % 65536 else a.lo.toNat / 2 ^ (112 - 16 * i) % 65536
theorem gI_lt (a : Ad) (i : Nat) : gI a i < 65536 := by
 unfold gI
 split <;> exact Nat.mod_lt _ (by omega)
theorem zq126 {a : Ad} (h : a.wf) {i : Nat} (hi : i < 8) : zq128 a i = some ((gI a i : Int),()) := by
 obtain ⟨h1,h2,h3,h4⟩ := h
 unfold zq128 gI
 have m1 : ∀ n : Nat,n < 18446744073709551616 → aop .and .u64 (n : Int) 65535 = ((n % 65536 : Nat) : Int) := fun n hn => zq176 n 16 hn (by omega)
 have hq : ∀ (n k : Nat),n < 18446744073709551616 → n / 2 ^ k < 18446744073709551616 := fun n k hn => Nat.lt_of_le_of_lt (Nat.div_le_self _ _) hn
 by_cases hlt : i < 4
 ·rw [decide_eq_true (show (i : Int) < 4 by omega),zq235,zq1187 (zq519 (by omega) (by omega)),zq1187 (zq519 (by omega) (by omega)),zq1187 (by simp; omega),if_pos hlt]
  rw [show (48 : Int) - 16 * (i : Int) = ((48 - 16 * i : Nat) : Int) by omega]
  obtain ⟨n,hn⟩ := Int.eq_ofNat_of_zero_le h1
  rw [hn,zq1245 _ _ (by omega),m1 _ (hq _ _ (by omega))]
  rfl
 ·rw [decide_eq_false (show ¬ (i : Int) < 4 by omega),zq233,zq1187 (zq519 (by omega) (by omega)),zq1187 (zq519 (by omega) (by omega)),zq1187 (by simp; omega),if_neg hlt]
  rw [show (112 : Int) - 16 * (i : Int) = ((112 - 16 * i : Nat) : Int) by omega]
  obtain ⟨n,hn⟩ := Int.eq_ofNat_of_zero_le h3
  rw [hn,zq1245 _ _ (by omega),m1 _ (hq _ _ (by omega))]
  rfl
theorem zq1208 {a : Ad} (h : a.wf) {f : Nat} : ∀ (N n : Nat),8 - (f + n) < N → f + n ≤ 8 → (∀ j,j < n → gI a (f + j) = 0) →
  ∃ m,n ≤ m ∧ f + m ≤ 8 ∧ (∀ j,j < m → gI a (f + j) = 0) ∧ (f + m < 8 → gI a (f + m) ≠ 0) ∧ loopN zq145 N ((((f : Int),()),(),((n : Int),()),()),((a,()),())) = some ((((m : Int),()),()),())
 | 0,_,h,_,_ => by omega
 | N + 1,n,hN,h8,hz => by
  have hstep : loopN zq145 (N + 1) ((((f : Int),()),(),((n : Int),()),()),((a,()),())) = zq145 (loopN zq145 N) ((((f : Int),()),(),((n : Int),()),()),((a,()),())) := zq789 ..
  by_cases hlt : f + n < 8
  ·by_cases hg : gI a (f + n) = 0
   ·obtain ⟨m,m1,m2,m3,m4,m5⟩ := zq1208 h (f := f) N (n + 1) (by omega) (by omega) (fun j hj => by
     rcases Nat.lt_or_eq_of_le (Nat.le_of_lt_succ hj) with h1 | h1
     ·exact hz j h1
     ·rw [h1]; exact hg)
    refine ⟨m,by omega,m2,m3,m4,?_⟩
    rw [hstep]
    simp only [zq145]
    rw [zq1187 (zq519 (by omega) (by omega)),decide_eq_true (show (f : Int) + (n : Int) < 8 by omega),zq235,zq1187 (zq519 (by omega) (by omega)),show (f : Int) + (n : Int) = ((f + n : Nat) : Int) by omega,zq126 h hlt,zq220,hg]
    simp only [zq220]
    rw [decide_eq_true (by rfl),zq235,show (n : Int) + 1 = ((n + 1 : Nat) : Int) by omega,zq1187 (zq519 (by omega) (by omega)),m5]
   ·refine ⟨n,zc49 _,h8,hz,fun _ => hg,?_⟩
    rw [hstep]
    simp only [zq145]
    rw [zq1187 (zq519 (by omega) (by omega)),decide_eq_true (show (f : Int) + (n : Int) < 8 by omega),zq235,zq1187 (zq519 (by omega) (by omega)),show (f : Int) + (n : Int) = ((f + n : Nat) : Int) by omega,zq126 h hlt,zq220]
    simp only [zq220]
    rw [decide_eq_false (by omega),zq233]
  ·refine ⟨n,zc49 _,h8,hz,fun h => absurd h hlt,?_⟩
   rw [hstep]
   simp only [zq145]
   rw [zq1187 (zq519 (by omega) (by omega)),decide_eq_false (show ¬ (f : Int) + (n : Int) < 8 by omega),zq233,zq220,zq233]
theorem zq1204 {a : Ad} (h : a.wf) {f : Nat} (hf : f ≤ 8) : ∃ m : Nat,f + m ≤ 8 ∧ (∀ j,j < m → gI a (f + j) = 0) ∧ (f + m < 8 → gI a (f + m) ≠ 0) ∧ zq152 a f = some ((m : Int),()) := by
 obtain ⟨m,_,m2,m3,m4,m5⟩ := zq1208 h (f := f) FUEL 0 (zq463 (by omega)) (by omega) (fun j hj => by omega)
 refine ⟨m,m2,m3,m4,?_⟩
 unfold zq152
 have m5 : loopN zq145 FUEL ((((f : Int),()),(),((0 : Int),()),()),((a,()),())) = some ((((m : Int),()),()),()) := m5
 rw [m5]
 rfl
def Row0 (a : Ad) (at_ many : Nat) : Prop := at_ + many ≤ 8 ∧ ∀ j,j < many → gI a (at_ + j) = 0
theorem zq786 {a : Ad} (h : a.wf) : ∀ (N i x m : Nat),8 - i < N → i ≤ 8 → 1 ≤ m → (2 ≤ m → Row0 a x m) →
  ∃ x' m' : Nat,1 ≤ m' ∧ (2 ≤ m' → Row0 a x' m') ∧ loopN zq137 N (((),((x : Int),()),((m : Int),()),((i : Int),()),()),((a,()),())) = some ((((x' : Int),()),((m' : Int),()),()),())
 | 0,_,_,_,h,_,_,_ => by omega
 | N + 1,i,x,m,hN,h8,hm,hr => by
  have hstep : loopN zq137 (N + 1) (((),((x : Int),()),((m : Int),()),((i : Int),()),()),((a,()),())) = zq137 (loopN zq137 N) (((),((x : Int),()),((m : Int),()),((i : Int),()),()),((a,()),())) := zq789 ..
  by_cases hlt : i < 8
  ·obtain ⟨n,n1,n2,n3,n4⟩ := zq1204 h (f := i) h8
   by_cases hg : m < n
   ·obtain ⟨x',m',q1,q2,q3⟩ := zq786 h N (i + 1) i n (by omega) (by omega) (by omega) (fun _ => ⟨n1,n2⟩)
    refine ⟨x',m',q1,q2,?_⟩
    rw [hstep]
    simp only [zq137]
    rw [decide_eq_true (show (i : Int) < 8 by omega),zq235,n4,zq220]
    simp only []
    rw [decide_eq_true (show (n : Int) > (m : Int) by omega),zq235,show (i : Int) + 1 = ((i + 1 : Nat) : Int) by omega,zq1187 (zq519 (by omega) (by omega)),q3]
   ·obtain ⟨x',m',q1,q2,q3⟩ := zq786 h N (i + 1) x m (by omega) (by omega) hm hr
    refine ⟨x',m',q1,q2,?_⟩
    rw [hstep]
    simp only [zq137]
    rw [decide_eq_true (show (i : Int) < 8 by omega),zq235,n4,zq220]
    simp only []
    rw [decide_eq_false (show ¬ (n : Int) > (m : Int) by omega),zq233,show (i : Int) + 1 = ((i + 1 : Nat) : Int) by omega,zq1187 (zq519 (by omega) (by omega)),q3]
  ·refine ⟨x,m,hm,hr,?_⟩
   rw [hstep]
   simp only [zq137]
   rw [decide_eq_false (show ¬ (i : Int) < 8 by omega),zq233]
theorem zq785 {a : Ad} (h : a.wf) : zq144 a = some (0,0,()) ∨ ∃ x m : Nat,2 ≤ m ∧ Row0 a x m ∧ zq144 a = some ((x : Int),(m : Int),()) := by
 obtain ⟨x,m,q1,q2,q3⟩ := zq786 h FUEL 0 0 1 (zq463 (by omega)) (by omega) (by omega) (fun h => by omega)
 have q3 : loopN zq137 FUEL (((),((0 : Int),()),((1 : Int),()),((0 : Int),()),()),((a,()),())) = some ((((x : Int),()),((m : Int),()),()),()) := q3
 unfold zq144
 rw [q3,zq220]
 simp only []
 by_cases h2 : m < 2
 ·left
  rw [decide_eq_true (show (m : Int) < 2 by omega),zq235]
 ·right
  refine ⟨x,m,by omega,q2 (by omega),?_⟩
  rw [decide_eq_false (show ¬ (m : Int) < 2 by omega),zq233]
def hexA (n : Nat) : ByteArray := ⟨(hex4 n).toArray⟩
def joinG (gs : List Nat) : List UInt8 := Lib.join (gs.map hex4) [58]
theorem zq588 (c : UInt8) (k : Nat) : ∀ xs : List (List UInt8),(∀ x ∈ xs,x.length ≤ k) → (Lib.join xs [c]).length ≤ (k + 1) * xs.length
 | [],_ => by simp [Lib.join_nil]
 | [x],h => by
  rw [Lib.join_one]
  have := h x (by simp)
  simp
  omega
 | x :: y :: r,h => by
  have h1 := h x (by simp)
  have h2 := zq588 c k (y :: r) (fun z hz => h z (by simp [hz]))
  rw [zq587]
  simp only [zc24,zc21] at h2 ⊢
  rw [Nat.mul_add (k + 1) (r.length + 1) 1]
  omega
theorem zq582 {gs : List Nat} (h : ∀ g ∈ gs,g < 65536) : (joinG gs).length ≤ 5 * gs.length := by
 have := zq588 58 4 (gs.map hex4) fun x hx => by
  obtain ⟨g,hg,rfl⟩ := List.mem_map.1 hx
  exact (zq505 g (h g hg)).2.2.1
 rwa [zc37] at this
theorem zq8 {l : List ByteArray} {c : UInt8} (h1 : l.length ≤ 1024) (h2 : (Lib.join (l.map (·.data.toList)) [c]).length ≤ 1099511627776) : zq1493 l ⟨#[c]⟩ = some (⟨(Lib.join (l.map (·.data.toList)) [c]).toArray⟩,()) := by
 unfold zq1493
 rw [zq1187]
 rw [zc4]
 exact ⟨Nat.ble_eq_true_of_le h1,Nat.ble_eq_true_of_le h2⟩
theorem zq507 {g : Nat} (h : g < 65536) : zq1482 (g : Int) 16 = some (hexA g,()) := by
 unfold zq1482
 rw [if_pos rfl,zq1187 (by simp; omega)]
 rfl
theorem zq490 {a : Ad} (h : a.wf) {t : Nat} (ht : t ≤ 8) : ∀ (N i : Nat) (out : List ByteArray),t - i < N → i ≤ t → out.length ≤ i →
  loopN zq129 N ((((t : Int),()),(),(),((i : Int),()),()),((a,()),out,())) = some (((),()),(out ++ (List.range' i (t - i)).map (fun j => hexA (gI a j)),()))
 | 0,_,_,h,_,_ => by omega
 | N + 1,i,out,hN,hi,ho => by
  rw [zq789]
  simp only [zq129]
  by_cases hlt : i < t
  ·rw [decide_eq_true (show (i : Int) < (t : Int) by omega),zq235,zq126 h (by omega),zq220]
   simp only []
   rw [zq507 (gI_lt a i),zq220,zq1187 (zq1201 (zq765 _) (zq765 _) (by unfold lenL; simp only [zc21,zc32]; omega)),show (i : Int) + 1 = ((i + 1 : Nat) : Int) by omega,zq1187 (zq519 (by omega) (by omega))]
   rw [zq490 h ht N (i + 1) _ (by omega) (by omega) (by simp; omega),show t - i = (t - (i + 1)) + 1 by omega,List.range'_succ,List.map_cons,zc48]
   rfl
  ·have : i = t := by omega
   subst this
   rw [decide_eq_false (show ¬ (i : Int) < (i : Int) by omega),zq233,Nat.sub_self]
   simp
theorem zq489 {a : Ad} (h : a.wf) {f t : Nat} (ht : t ≤ 8) (hf : f ≤ t) : zq136 a f t = some (⟨(joinG ((List.range' f (t - f)).map (gI a))).toArray⟩,()) := by
 unfold zq136
 rw [zq490 h ht FUEL f [] (zq463 (by omega)) hf (by simp),zq220]
 have e : (((List.range' f (t - f)).map (fun j => hexA (gI a j))).map (·.data.toList)) = ((List.range' f (t - f)).map (gI a)).map hex4 := by
  rw [List.map_map,List.map_map]
  rfl
 have hl := zq582 (gs := (List.range' f (t - f)).map (gI a)) (fun g hg => by
  obtain ⟨i,_,rfl⟩ := List.mem_map.1 hg
  exact gI_lt a i)
 unfold joinG at hl
 rw [List.nil_append,zq8 (by simp; omega) (by rw [e]; simp at hl ⊢; omega),e,zq220]
 rfl
def gsA (a : Ad) : List Nat := (List.range 8).map (gI a)
def Six (a : Ad) (T : List UInt8) : Prop := T = joinG (gsA a) ∨ ∃ x m : Nat,2 ≤ m ∧ Row0 a x m ∧ T = joinG ((gsA a).take x) ++ [58,58] ++ joinG ((gsA a).drop (x + m))
theorem zq497 (a : Ad) {x : Nat} (h : x ≤ 8) : (gsA a).take x = (List.range' 0 (x - 0)).map (gI a) := by
 unfold gsA
 rw [← List.map_take,List.range_eq_range',Nat.sub_zero]
 congr 1
 have := List.range'_append_1 (s := 0) (m := x) (n := 8 - x)
 rw [Nat.zero_add,show x + (8 - x) = 8 by omega] at this
 rw [← this,List.take_left' (by simp)]
theorem zq493 (a : Ad) {x : Nat} (h : x ≤ 8) : (gsA a).drop x = (List.range' x (8 - x)).map (gI a) := by
 unfold gsA
 rw [← List.map_drop,List.range_eq_range',List.drop_range']
 simp
theorem zq496 (a : Ad) : ∀ g ∈ gsA a,g < 65536 := fun g hg => by
 obtain ⟨i,_,rfl⟩ := List.mem_map.1 hg
 exact gI_lt a i
theorem zq256 (A B : List UInt8) : catS ⟨A.toArray⟩ ⟨B.toArray⟩ = (⟨(A ++ B).toArray⟩ : ByteArray) := by
 apply ByteArray.ext
 simp [catS]
theorem zq1200 (A : List UInt8) (hA : A.length ≤ 9223372036854775807) : roomS ⟨A.toArray⟩ = true := by
 unfold roomS
 exact Nat.ble_eq_true_of_le (by simpa [ByteArray.size] using hA)
def zq1521 (a : Ad) (y : Int × Int × Unit) : Option (ByteArray × Unit) :=
 br (decide (y.2.1 = 0))
   ((zq136 a 0 8).bind fun y2 =>
   some (y2.1,()))
   ((zq136 a 0 y.1).bind fun y2 =>
   req (roomS (catS y2.1 (⟨#[58,58]⟩ : ByteArray))) <|
   req (i64ok (y.1 + y.2.1)) <|
   (zq136 a (y.1 + y.2.1) 8).bind fun y3 =>
   req (roomS (catS (catS y2.1 (⟨#[58,58]⟩ : ByteArray)) y3.1)) <|
   some (catS (catS y2.1 (⟨#[58,58]⟩ : ByteArray)) y3.1,()))
theorem zq1548 {a : Ad} (hv : a.v6 = true) : zq122 a = (zq144 a).bind (zq1521 a) := by
 unfold zq122 zq1521
 rw [hv,zc10,zq233]
theorem zq1522 {a : Ad} (h : a.wf) : zq1521 a (0,0,()) = some (⟨(joinG (gsA a)).toArray⟩,()) := by
 have := zq489 h (f := 0) (t := 8) (by omega) (by omega)
 rw [← zq497 a (zc49 8),show (gsA a).take 8 = gsA a from List.take_of_length_le (by simp [gsA]),Int.natCast_zero,show ((8 : Nat) : Int) = 8 from rfl] at this
 unfold zq1521
 rw [show decide ((0,0,()).2.1 = (0 : Int)) = true from rfl,zq235,this,zq220]
theorem zq1523 {a : Ad} (h : a.wf) {x m : Nat} (m1 : 2 ≤ m) (m2 : Row0 a x m) : zq1521 a ((x : Int),(m : Int),()) = some (⟨(joinG ((gsA a).take x) ++ [58,58] ++ joinG ((gsA a).drop (x + m))).toArray⟩,()) := by
 obtain ⟨r1,r2⟩ := m2
 have g1 : zq136 a 0 (x : Int) = some (⟨(joinG ((gsA a).take x)).toArray⟩,()) := by
  have := zq489 h (f := 0) (t := x) (by omega) (by omega)
  rw [← zq497 a (by omega),Int.natCast_zero] at this
  exact this
 have g2 : zq136 a ((x : Int) + (m : Int)) 8 = some (⟨(joinG ((gsA a).drop (x + m))).toArray⟩,()) := by
  have := zq489 h (f := x + m) (t := 8) (by omega) r1
  rw [← zq493 a r1,show ((8 : Nat) : Int) = 8 from rfl] at this
  rw [show (x : Int) + (m : Int) = ((x + m : Nat) : Int) by omega]
  exact this
 have l1 := zq582 (gs := (gsA a).take x) (fun g hg => zq496 a g (List.mem_of_mem_take hg))
 have l2 := zq582 (gs := (gsA a).drop (x + m)) (fun g hg => zq496 a g (List.mem_of_mem_drop hg))
 have l3 : ((gsA a).take x).length ≤ 8 := by simp [gsA]; omega
 have l4 : ((gsA a).drop (x + m)).length ≤ 8 := by simp [gsA]
 unfold zq1521
 generalize joinG ((gsA a).take x) = A at g1 l1 ⊢
 generalize joinG ((gsA a).drop (x + m)) = B at g2 l2 ⊢
 rw [show decide (((x : Int),(m : Int),()).2.1 = (0 : Int)) = false from decide_eq_false (by show ¬ (m : Int) = 0; omega),zq233]
 show (zq136 a 0 (x : Int)).bind _ = _
 rw [g1,zq220,show (⟨#[58,58]⟩ : ByteArray) = ⟨([58,58] : List UInt8).toArray⟩ from rfl,zq256,zq1187 (zq1200 _ (by simp; omega)),zq1187 (zq519 (by show (-9223372036854775808 : Int) ≤ (x : Int) + (m : Int); omega) (by show (x : Int) + (m : Int) < 9223372036854775808; omega))]
 show (zq136 a ((x : Int) + (m : Int)) 8).bind _ = _
 rw [g2,zq220,zq256,zq1187 (zq1200 _ (by simp; omega))]
theorem text6 {a : Ad} (h : a.wf) (hv : a.v6 = true) : ∃ T : List UInt8,zq122 a = some (⟨T.toArray⟩,()) ∧ Six a T := by
 rw [zq1548 hv]
 rcases zq785 h with h1 | ⟨x,m,m1,m2,m3⟩
 ·refine ⟨joinG (gsA a),?_,.inl rfl⟩
  rw [h1,zq220,zq1522 h]
 ·refine ⟨joinG ((gsA a).take x) ++ [58,58] ++ joinG ((gsA a).drop (x + m)),?_,.inr ⟨x,m,m1,m2,rfl⟩⟩
  rw [m3,zq220,zq1523 h m1 m2]
def text4 (n : Nat) : List UInt8 := Lib.join [dec3 (n / 2 ^ 24 % 256),dec3 (n / 2 ^ 16 % 256),dec3 (n / 2 ^ 8 % 256),dec3 (n % 256)] [46]
theorem zq331 {n : Nat} (h : n < 256) : zq1482 (n : Int) 10 = some (⟨(dec3 n).toArray⟩,()) := by
 unfold zq1482
 rw [if_neg (by decide),zq1187 (by simp; omega)]
 rfl
theorem zq1565 {a : Ad} (h : a.wf) (hv : a.v6 = false) : zq122 a = some (⟨(text4 a.lo.toNat).toArray⟩,()) := by
 obtain ⟨h1,h2,h3,h4⟩ := h
 obtain ⟨n,hn⟩ := Int.eq_ofNat_of_zero_le h3
 have hn2 : n < 18446744073709551616 := by omega
 unfold zq122
 rw [hv,zc19,zq235]
 have hb : ∀ k : Nat,k ≤ 64 → zq1482 (aop .and .u64 (aop .shr .u64 a.lo (k : Int)) 255) 10 = some (⟨(dec3 (n / 2 ^ k % 256)).toArray⟩,()) := fun k hk => by
  rw [hn,zq1245 _ _ hk]
  have := zq176 (n / 2 ^ k) 8 (Nat.lt_of_le_of_lt (Nat.div_le_self _ _) hn2) (by omega)
  rw [show (255 : Int) = ((2 ^ 8 - 1 : Nat) : Int) from rfl,this]
  exact zq331 (Nat.mod_lt _ (by omega))
 have b24 := hb 24 (by omega)
 have b16 := hb 16 (by omega)
 have b8 := hb 8 (by omega)
 have b0 := hb 0 (by omega)
 rw [show ((24 : Nat) : Int) = 24 from rfl] at b24
 rw [show ((16 : Nat) : Int) = 16 from rfl] at b16
 rw [show ((8 : Nat) : Int) = 8 from rfl] at b8
 rw [show ((0 : Nat) : Int) = 0 from rfl,Nat.pow_zero,Nat.div_one] at b0
 have hl : loopN zq114 FUEL (((),(),(24,()),()),((a,()),([] : List ByteArray),())) = some (((),()),([⟨(dec3 (n / 2 ^ 24 % 256)).toArray⟩,⟨(dec3 (n / 2 ^ 16 % 256)).toArray⟩,⟨(dec3 (n / 2 ^ 8 % 256)).toArray⟩,⟨(dec3 (n % 256)).toArray⟩],())) := by
  rw [show FUEL = (FUEL - 5) + 1 + 1 + 1 + 1 + 1 from rfl]
  generalize FUEL - 5 = N
  have room1 : ∀ (l : List ByteArray) (x : ByteArray),l.length ≤ 8 → room (lenL l) (lenL [x]) = true := fun l x hl => zq1201 (zq765 _) (zq765 _) (by unfold lenL; simp only [zc21,zc32]; omega)
  rw [zq789]
  simp only [zq114]
  rw [decide_eq_true (show (24 : Int) ≥ 0 by omega),zq235,zq1187 (by rfl),b24,zq220,zq1187 (room1 _ _ (by simp)),zq1187 (by rfl),show (24 : Int) - 8 = 16 from rfl,zq789]
  simp only [zq114]
  rw [decide_eq_true (show (16 : Int) ≥ 0 by omega),zq235,zq1187 (by rfl),b16,zq220,zq1187 (room1 _ _ (by simp)),zq1187 (by rfl),show (16 : Int) - 8 = 8 from rfl,zq789]
  simp only [zq114]
  rw [decide_eq_true (show (8 : Int) ≥ 0 by omega),zq235,zq1187 (by rfl),b8,zq220,zq1187 (room1 _ _ (by simp)),zq1187 (by rfl),show (8 : Int) - 8 = 0 from rfl,zq789]
  simp only [zq114]
  rw [decide_eq_true (show (0 : Int) ≥ 0 by omega),zq235,zq1187 (by rfl),b0,zq220,zq1187 (room1 _ _ (by simp)),zq1187 (by rfl),show (0 : Int) - 8 = -8 from rfl,zq789]
  simp only [zq114]
  rw [decide_eq_false (show ¬ (-8 : Int) ≥ 0 by omega),zq233]
  rfl
 rw [hl,zq220]
 have hlen := zq588 46 3 [dec3 (n / 2 ^ 24 % 256),dec3 (n / 2 ^ 16 % 256),dec3 (n / 2 ^ 8 % 256),dec3 (n % 256)] (fun x hx => by
  simp only [zc28,zc38,or_false] at hx
  rcases hx with rfl | rfl | rfl | rfl <;> exact (zq311 _ (by omega)).2.1)
 simp only []
 rw [zq8 (by simp) (by simp only [List.map_cons,List.map_nil]; simp at hlen ⊢; omega),zq220]
 simp only [List.map_cons,List.map_nil]
 rw [hn]
 rfl
end Go.Ma
namespace Go.Ma
open Go
theorem noCC (c : UInt8) : ∀ xs : List (List UInt8),(∀ x ∈ xs,x ≠ [] ∧ c ∉ x) → ∀ (R : List UInt8) (j : Nat),j < (Lib.join xs [c]).length → ¬ ((Lib.join xs [c] ++ R)[j]? = some c ∧ (Lib.join xs [c] ++ R)[j + 1]? = some c)
 | [],_,R,j,hj => by simp [Lib.join_nil] at hj
 | [x],h,R,j,hj => by
  rw [Lib.join_one] at hj ⊢
  rintro ⟨h1,_⟩
  rw [zc6 hj] at h1
  exact (h x (by simp)).2 (zc5 h1)
 | x :: y :: r,h,R,j,hj => by
  rw [zq587] at hj ⊢
  rintro ⟨h1,h2⟩
  rw [zc48] at h1 h2
  rcases Nat.lt_trichotomy j x.length with hlt | he | hgt
  ·rw [zc6 hlt] at h1
   exact (h x (by simp)).2 (zc5 h1)
  ·subst he
   rw [zc12 (by omega),show x.length + 1 - x.length = 0 + 1 by omega,zc43,zc35] at h2
   obtain ⟨hy,hc⟩ := h y (by simp)
   cases hyy : y with
   | nil => exact hy hyy
   | cons b t =>
    have hb : b ≠ c := fun e => hc (by rw [hyy,e]; simp)
    have : (Lib.join (y :: r) [c] ++ R)[0]? = some b := by
     cases r with
     | nil => rw [Lib.join_one,hyy]; rfl
     | cons z r => rw [zq587,hyy]; rfl
    rw [this] at h2
    injection h2 with h2
    exact hb h2
  ·obtain ⟨k,rfl⟩ : ∃ k,j = x.length + 1 + k := ⟨j - x.length - 1,by omega⟩
   rw [zc12 (by omega),show x.length + 1 + k - x.length = k + 1 by omega,zc43,zc35] at h1
   rw [zc12 (by omega),show x.length + 1 + k + 1 - x.length = (k + 1) + 1 by omega,zc43,zc35] at h2
   exact noCC c (y :: r) (fun z hz => h z (by simp [hz])) R k (by simp only [zc24,zc21] at hj; omega) ⟨h1,h2⟩
theorem zq514 {gs : List Nat} (h : ∀ g ∈ gs,g < 65536) : ∀ x ∈ gs.map hex4,x ≠ [] ∧ (58 : UInt8) ∉ x ∧ (46 : UInt8) ∉ x ∧ (47 : UInt8) ∉ x := fun x hx => by
 obtain ⟨g,hg,rfl⟩ := List.mem_map.1 hx
 obtain ⟨_,h2,_,h4⟩ := zq505 g (h g hg)
 exact ⟨fun e => by rw [e] at h2; simp at h2,fun hc => (h4 _ hc).2.1 rfl,fun hc => (h4 _ hc).2.2.1 rfl,fun hc => (h4 _ hc).2.2.2 rfl⟩
theorem zq591 (c d : UInt8) : ∀ xs : List (List UInt8),d ∈ Lib.join xs [c] → (∃ x ∈ xs,d ∈ x) ∨ (d = c ∧ 2 ≤ xs.length)
 | [],h => by simp [Lib.join_nil] at h
 | [x],h => by rw [Lib.join_one] at h; exact .inl ⟨x,by simp,h⟩
 | x :: y :: r,h => by
  rw [zq587] at h
  rcases zc36.1 h with h | h
  ·exact .inl ⟨x,by simp,h⟩
  ·rcases zc28.1 h with h | h
   ·exact .inr ⟨h,by simp⟩
   ·rcases zq591 c d (y :: r) h with ⟨z,hz,hd⟩ | ⟨e,_⟩
    ·exact .inl ⟨z,by simp [hz],hd⟩
    ·exact .inr ⟨e,by simp⟩
theorem zq1256 : ∀ (gs : List Nat),(∀ g ∈ gs,g < 65536) → ∀ (last : Bool) (len i : Nat) (out : List Int),someL last len (gs.map hexA) i out = some (out ++ gs.map fun (g : Nat) => (g : Int))
 | [],_,_,_,_,out => by simp [someL]
 | g :: r,h,last,len,i,out => by
  have hd : dotIn (hexA g) = false := by
   unfold dotIn
   have := zq243 (hex4 g) 46 (zq514 (gs := [g]) (by simpa using h g (by simp)) _ (by simp)).2.2.1
   rw [show (hexA g).data.toList = hex4 g from rfl,this]
   rfl
  rw [List.map_cons,someL,hd,if_neg (by simp),part_hex' g (h g (by simp))]
  simp only
  rw [zq1256 r (fun x hx => h x (by simp [hx])) last len (i + 1),List.map_cons,zc48]
  rfl
 where part_hex' (g : Nat) (h : g < 65536) : partF (hexA g) 16 4 65535 = some (g : Int) := zq998 g h
theorem zq584 {gs : List Nat} (h0 : gs ≠ []) (h : ∀ g ∈ gs,g < 65536) : zq1332 ⟨(joinG gs).toArray⟩ 58 = gs.map hexA := by
 unfold joinG
 rw [zq1339 58 (by simpa using h0) fun x hx => (zq514 h x hx).2.1,List.map_map]
 rfl
theorem zq583 {gs : List Nat} (h : ∀ g ∈ gs,g < 65536) (last : Bool) : someF ⟨(joinG gs).toArray⟩ last = some (gs.map fun (g : Nat) => (g : Int)) := by
 by_cases h0 : gs = []
 ·subst h0
  rfl
 ·have hpos : 0 < (joinG gs).length := by
   unfold joinG
   match gs,h0 with
   | g :: r,_ =>
    have := (zq514 h (hex4 g) (by simp)).1
    have hp : 0 < (hex4 g).length := List.length_pos_iff.2 this
    cases r with
    | nil => rw [List.map_cons,List.map_nil,Lib.join_one]; exact hp
    | cons g2 r => rw [List.map_cons,List.map_cons,zq587]; simp only [zc24]; omega
  unfold someF
  rw [if_neg (by simp [ByteArray.size]; intro e; rw [e] at hpos; simp at hpos),zq584 h0 h,zq1256 gs h]
  simp
theorem zq985 : ∀ (gs : List Nat) (n : Nat),(∀ g ∈ gs,g < 65536) → (n + 1) * 65536 ^ gs.length ≤ 18446744073709551616 → packI (gs.map fun (g : Nat) => (g : Int)) (n : Int) = ((gs.foldl (fun n g => n * 65536 + g) n : Nat) : Int)
 | [],n,_,_ => rfl
 | g :: r,n,h,hn => by
  have hg := h g (by simp)
  have h1 : (n + 1) * 65536 * 65536 ^ r.length ≤ 18446744073709551616 := by rw [zc21,Nat.pow_succ,Nat.mul_comm (65536 ^ r.length) 65536,← Nat.mul_assoc] at hn; exact hn
  have h2 : 1 ≤ 65536 ^ r.length := Nat.pow_pos (by omega)
  have h3 : (n + 1) * 65536 ≤ 18446744073709551616 := Nat.le_trans (by simpa using Nat.mul_le_mul_left ((n + 1) * 65536) h2) h1
  rw [List.map_cons,packI,List.foldl_cons]
  have hs : aop .shl .u64 (n : Int) 16 = ((2 ^ 16 * n : Nat) : Int) := zq1243 n 16 (by omega) (by omega)
  rw [hs,zq948 n g 16 (by omega) (by omega),show 2 ^ 16 * n + g = n * 65536 + g by omega]
  refine zq985 r (n * 65536 + g) (fun x hx => h x (by simp [hx])) (Nat.le_trans (Nat.mul_le_mul_right _ ?_) h1)
  omega
theorem zq982 {a : Ad} (h : a.wf) (hv : a.v6 = true) : packA ((gsA a).map fun (g : Nat) => (g : Int)) = a := by
 obtain ⟨h1,h2,h3,h4⟩ := h
 have e : gsA a = [gI a 0,gI a 1,gI a 2,gI a 3,gI a 4,gI a 5,gI a 6,gI a 7] := rfl
 have hp : ∀ b c d f : Nat,b < 65536 → c < 65536 → d < 65536 → f < 65536 → packI ([b,c,d,f].map fun (g : Nat) => (g : Int)) 0 = ((((b * 65536 + c) * 65536 + d) * 65536 + f : Nat) : Int) := fun b c d f hb hc hd hf => by
  have := zq985 [b,c,d,f] 0 (by simp; omega) (by simp)
  simp only [List.foldl_cons,List.foldl_nil,Nat.zero_mul,Nat.zero_add] at this
  exact this
 unfold packA
 rw [e]
 have e1 : (([gI a 0,gI a 1,gI a 2,gI a 3,gI a 4,gI a 5,gI a 6,gI a 7].map fun (g : Nat) => (g : Int)).take 4) = ([gI a 0,gI a 1,gI a 2,gI a 3].map fun (g : Nat) => (g : Int)) := rfl
 have e2 : ((([gI a 0,gI a 1,gI a 2,gI a 3,gI a 4,gI a 5,gI a 6,gI a 7].map fun (g : Nat) => (g : Int)).drop 4).take 4) = ([gI a 4,gI a 5,gI a 6,gI a 7].map fun (g : Nat) => (g : Int)) := rfl
 rw [e1,e2,hp _ _ _ _ (gI_lt a 0) (gI_lt a 1) (gI_lt a 2) (gI_lt a 3),hp _ _ _ _ (gI_lt a 4) (gI_lt a 5) (gI_lt a 6) (gI_lt a 7)]
 obtain ⟨v,hi,lo⟩ := a
 simp only at h1 h2 h3 h4 hv
 subst hv
 obtain ⟨n,rfl⟩ := Int.eq_ofNat_of_zero_le h1
 obtain ⟨k,rfl⟩ := Int.eq_ofNat_of_zero_le h3
 simp only [gI,zc42]
 congr 2 <;> simp <;> omega
theorem cut_at {s : List UInt8} {k : Nat} (hk : k ≤ s.length) (h : Lib.occAt s [58,58] k = true) (hn : ∀ j,j < k → Lib.occAt s [58,58] j = false) : Lib.cut s [58,58] = (s.take k,s.drop (k + 2),true) := by
 unfold Lib.cut
 rw [zq526 hk h hn]
 simp
theorem cut_no {s : List UInt8} (hn : ∀ j,j ≤ s.length → Lib.occAt s [58,58] j = false) : Lib.cut s [58,58] = (s,[],false) := by
 unfold Lib.cut
 rw [zq528 hn]
 rfl
theorem zq295 {s : List UInt8} (h : (58 : UInt8) ∈ s) : zq293 ⟨s.toArray⟩ = true := decide_eq_true (zq244 h)
theorem zq294 {s : List UInt8} (h : (58 : UInt8) ∉ s) : zq293 ⟨s.toArray⟩ = false := decide_eq_false (by rw [show (⟨s.toArray⟩ : ByteArray).data.toList = s from rfl,zq243 s 58 h]; omega)
theorem zq586 : ∀ (x y : List UInt8) (r : List (List UInt8)) (c : UInt8),c ∈ Lib.join (x :: y :: r) [c] := fun x y r c => by
 rw [zq587]
 simp
theorem zq1252 {a : Ad} (h : a.wf) (hv : a.v6 = true) : toldF ⟨(joinG (gsA a)).toArray⟩ = some a := by
 have hg := zq496 a
 have hc : (58 : UInt8) ∈ joinG (gsA a) := zq586 _ _ _ 58
 unfold toldF
 rw [if_pos (zq295 hc)]
 have hcut : Lib.cut (joinG (gsA a)) [58,58] = (joinG (gsA a),[],false) := cut_no fun j hj => by
  rw [zq870]
  by_cases hlt : j < (joinG (gsA a)).length
  ·have := noCC 58 ((gsA a).map hex4) (fun x hx => ⟨(zq514 hg x hx).1,(zq514 hg x hx).2.1⟩) [] j hlt
   rw [List.append_nil] at this
   rw [Bool.and_eq_false_iff,decide_eq_false_iff_not,decide_eq_false_iff_not]
   exact Classical.not_and_iff_not_or_not.1 this
  ·rw [List.getElem?_eq_none (by omega)]
   rfl
 unfold zq1255
 have h3 : cut3 ⟨(joinG (gsA a)).toArray⟩ = false := by unfold cut3; rw [show (⟨(joinG (gsA a)).toArray⟩ : ByteArray).data.toList = joinG (gsA a) from rfl,hcut]
 rw [h3,if_neg (by simp),zq583 hg]
 simp only
 rw [if_pos (by simp [gsA]),zq982 h hv]
theorem zq498 {a : Ad} {x m : Nat} (h : Row0 a x m) : gsA a = (gsA a).take x ++ List.replicate m 0 ++ (gsA a).drop (x + m) := by
 obtain ⟨h1,h2⟩ := h
 apply List.ext_getElem?
 intro i
 have hl : (gsA a).length = 8 := by simp [gsA]
 have hg : ∀ i,i < 8 → (gsA a)[i]? = some (gI a i) := fun i hi => by simp [gsA,hi]
 by_cases c1 : i < x
 ·rw [zc48,zc6 (by simp [hl]; omega),List.getElem?_take,if_pos c1]
 ·by_cases c2 : i < x + m
  ·rw [zc6 (by simp [hl]; omega),zc12 (by simp [hl]; omega)]
   rw [hg i (by omega)]
   have := h2 (i - x) (by omega)
   rw [show x + (i - x) = i by omega] at this
   rw [this,List.getElem?_replicate,if_pos (by simp [hl]; omega)]
  ·rw [zc12 (by simp [hl]; omega),zc40]
   congr 1
   simp [hl]
   omega
theorem zq1254 {a : Ad} (h : a.wf) (hv : a.v6 = true) {x m : Nat} (m1 : 2 ≤ m) (hr : Row0 a x m) : toldF ⟨(joinG ((gsA a).take x) ++ [58,58] ++ joinG ((gsA a).drop (x + m))).toArray⟩ = some a := by
 have hg := zq496 a
 have hga : ∀ g ∈ (gsA a).take x,g < 65536 := fun g hx => hg g (List.mem_of_mem_take hx)
 have hgb : ∀ g ∈ (gsA a).drop (x + m),g < 65536 := fun g hx => hg g (List.mem_of_mem_drop hx)
 have hx8 : x + m ≤ 8 := hr.1
 have hl : (gsA a).length = 8 := by simp [gsA]
 have hla : ((gsA a).take x).length = x := by rw [zc20,hl]; omega
 have hlb : ((gsA a).drop (x + m)).length = 8 - (x + m) := by rw [List.length_drop,hl]
 have hz := zq498 hr
 have hcut : Lib.cut (joinG ((gsA a).take x) ++ [58,58] ++ joinG ((gsA a).drop (x + m))) [58,58] = (joinG ((gsA a).take x),joinG ((gsA a).drop (x + m)),true) := by
  have := cut_at (s := joinG ((gsA a).take x) ++ [58,58] ++ joinG ((gsA a).drop (x + m))) (k := (joinG ((gsA a).take x)).length) (by simp only [zc24]; omega) (zq868 _ _ _) fun j hj => by
   rw [zq870]
   have := noCC 58 (((gsA a).take x).map hex4) (fun y hy => ⟨(zq514 hga y hy).1,(zq514 hga y hy).2.1⟩) ([58,58] ++ joinG ((gsA a).drop (x + m))) j hj
   rw [← zc48] at this
   rw [Bool.and_eq_false_iff,decide_eq_false_iff_not,decide_eq_false_iff_not]
   exact Classical.not_and_iff_not_or_not.1 this
  rw [this]
  congr 1
  ·rw [zc48,List.take_left]
  ·congr 1
   rw [← List.drop_drop,zc48,List.drop_left]
   rfl
 generalize hA : joinG ((gsA a).take x) = A at hcut ⊢
 generalize hB : joinG ((gsA a).drop (x + m)) = B at hcut ⊢
 have hc : (58 : UInt8) ∈ A ++ [58,58] ++ B := by simp
 unfold toldF
 rw [if_pos (zq295 hc)]
 unfold zq1255
 have e : (⟨(A ++ [58,58] ++ B).toArray⟩ : ByteArray).data.toList = A ++ [58,58] ++ B := rfl
 have h3 : cut3 ⟨(A ++ [58,58] ++ B).toArray⟩ = true := by unfold cut3; rw [e,hcut]
 have h1 : cut1 ⟨(A ++ [58,58] ++ B).toArray⟩ = ⟨A.toArray⟩ := by unfold cut1; rw [e,hcut]
 have h2 : cut2 ⟨(A ++ [58,58] ++ B).toArray⟩ = ⟨B.toArray⟩ := by unfold cut2; rw [e,hcut]
 rw [h3,if_pos rfl,h1,h2,← hA,← hB,zq583 hga,zq583 hgb]
 simp only [zc37,hla,hlb]
 rw [if_neg (by omega),show 8 - x - (8 - (x + m)) = m by omega]
 rw [show ((gsA a).take x).map (fun (g : Nat) => (g : Int)) ++ List.replicate m 0 ++ ((gsA a).drop (x + m)).map (fun (g : Nat) => (g : Int)) = (gsA a).map fun (g : Nat) => (g : Int) by
  conv => rhs; rw [hz]
  simp,zq982 h hv]
theorem zq1578 {a : Ad} (h : a.wf) (hv : a.v6 = true) {T : List UInt8} (hT : Six a T) : toldF ⟨T.toArray⟩ = some a := by
 rcases hT with rfl | ⟨x,m,m1,hr,rfl⟩
 ·exact zq1252 h hv
 ·exact zq1254 h hv m1 hr
theorem zq1573 {n : Nat} (h : n < 4294967296) : toldF ⟨(text4 n).toArray⟩ = some ⟨false,0,n⟩ := by
 have hd : ∀ x ∈ [dec3 (n / 2 ^ 24 % 256),dec3 (n / 2 ^ 16 % 256),dec3 (n / 2 ^ 8 % 256),dec3 (n % 256)],(58 : UInt8) ∉ x ∧ (46 : UInt8) ∉ x := fun x hx => by
  simp only [zc28,zc38,or_false] at hx
  rcases hx with rfl | rfl | rfl | rfl <;> exact ⟨fun hc => ((zq311 _ (by omega)).2.2 _ hc).1 rfl,fun hc => ((zq311 _ (by omega)).2.2 _ hc).2.1 rfl⟩
 have hno : (58 : UInt8) ∉ text4 n := fun hc => by
  rcases zq591 46 58 _ hc with ⟨x,hx,hc⟩ | ⟨e,_⟩
  ·exact (hd x hx).1 hc
  ·exact absurd e (by decide)
 unfold toldF
 rw [zq294 hno,if_neg (by simp)]
 unfold fourF
 have hs : zq1332 ⟨(text4 n).toArray⟩ 46 = [⟨(dec3 (n / 2 ^ 24 % 256)).toArray⟩,⟨(dec3 (n / 2 ^ 16 % 256)).toArray⟩,⟨(dec3 (n / 2 ^ 8 % 256)).toArray⟩,⟨(dec3 (n % 256)).toArray⟩] := by
  unfold text4
  rw [zq1339 46 (by simp) fun x hx => (hd x hx).2]
  rfl
 rw [hs]
 simp only [zc21,zc32,Nat.zero_add,Nat.reduceAdd,if_true]
 have step : ∀ (k b : Nat) (r : List ByteArray),b < 256 → k < 4294967296 → fourL (⟨(dec3 b).toArray⟩ :: r) (k : Int) = fourL r ((k * 256 + b : Nat) : Int) := fun k b r hb hk => by
  rw [fourL,zq997 b hb]
  simp only
  have hs : aop .shl .u64 (k : Int) 8 = ((2 ^ 8 * k : Nat) : Int) := zq1243 k 8 (by omega) (by omega)
  rw [hs,zq948 k b 8 (by omega) (by omega),show 2 ^ 8 * k + b = k * 256 + b by omega]
 rw [show (0 : Int) = ((0 : Nat) : Int) from rfl,step 0 _ _ (by omega) (by omega),step _ _ _ (by omega) (by omega),step _ _ _ (by omega) (by omega),step _ _ _ (by omega) (by omega),fourL]
 simp only [Option.map_some]
 congr 2
 omega
end Go.Ma
namespace Go.Ma
open Go
theorem zq996 {x : ByteArray} {b d m u : Int} (h : partF x b d m = some u) : 0 ≤ u ∧ u ≤ m := by
 unfold partF at h
 split at h
 ·split at h
  ·cases h
  ·rename_i n hn
   split at h
   ·cases h
   ·rename_i hc
    injection h with h
    subst h
    simp only [not_or,Int.not_lt] at hc
    omega
 ·cases h
theorem zq456 : ∀ (l : List ByteArray) (j n : Nat) (r : Int),j + l.length ≤ 4 → n < 256 ^ j → fourL l (n : Int) = some r → 0 ≤ r ∧ r < (256 ^ (j + l.length) : Nat)
 | [],j,n,r,_,hn,h => by
  simp only [fourL,zc2] at h
  subst h
  simp only [zc32,Nat.add_zero]
  omega
 | x :: l,j,n,r,hj,hn,h => by
  simp only [fourL] at h
  split at h
  ·cases h
  ·rename_i u hu
   obtain ⟨u1,u2⟩ := zq996 hu
   obtain ⟨k,rfl⟩ := Int.eq_ofNat_of_zero_le u1
   simp only [zc21] at hj
   have hp : 256 ^ j ≤ 256 ^ 3 := Nat.pow_le_pow_right (by omega) (by omega)
   have hs : aop .shl .u64 (n : Int) 8 = ((2 ^ 8 * n : Nat) : Int) := zq1243 n 8 (by omega) (by omega)
   rw [hs,zq948 n k 8 (by omega) (by omega)] at h
   have := zq456 l (j + 1) (2 ^ 8 * n + k) r (by omega) (by rw [Nat.pow_succ]; omega) h
   rw [zc21,show j + (l.length + 1) = j + 1 + l.length by omega]
   exact this
theorem zq455 {s : ByteArray} {r : Int} (h : fourF s = some r) : 0 ≤ r ∧ r < 4294967296 := by
 unfold fourF at h
 split at h
 ·rename_i h4
  have := zq456 (zq1332 s 46) 0 0 r (by omega) (by decide) h
  rw [h4] at this
  exact this
 ·cases h
theorem zq1303 (last : Bool) (len : Nat) : ∀ (l : List ByteArray) (i : Nat) (out r : List Int),(∀ u ∈ out,0 ≤ u ∧ u < 65536) → someL last len l i out = some r → ∀ u ∈ r,0 ≤ u ∧ u < 65536
 | [],i,out,r,ho,h => by
  simp only [someL,zc2] at h
  subst h
  exact ho
 | x :: l,i,out,r,ho,h => by
  simp only [someL] at h
  split at h
  ·split at h
   ·cases h
   ·rename_i n hn
    obtain ⟨n1,n2⟩ := zq455 hn
    refine zq1303 last len l (i + 1) _ r (fun u hu => ?_) h
    rcases zc36.1 hu with hu | hu
    ·exact ho u hu
    ·obtain ⟨k,rfl⟩ := Int.eq_ofNat_of_zero_le n1
     have := zq176 k 16 (by omega) (by omega)
     rw [show ((2 ^ 16 - 1 : Nat) : Int) = 65535 from rfl] at this
     rw [this] at hu
     simp only [zc28,zc38,or_false] at hu
     rcases hu with rfl | rfl <;> omega
  ·split at h
   ·cases h
   ·rename_i v hv
    obtain ⟨v1,v2⟩ := zq996 hv
    refine zq1303 last len l (i + 1) _ r (fun u hu => ?_) h
    rcases zc36.1 hu with hu | hu
    ·exact ho u hu
    ·rw [zc39] at hu
     subst hu
     omega
theorem zq1301 {s : ByteArray} {last : Bool} {r : List Int} (h : someF s last = some r) : ∀ u ∈ r,0 ≤ u ∧ u < 65536 := by
 unfold someF at h
 split at h
 ·injection h with h
  subst h
  exact fun u hu => by cases hu
 ·exact zq1303 _ _ _ _ _ _ (fun u hu => by cases hu) h
theorem zq984 : ∀ (l : List Int) (j n : Nat),j + l.length ≤ 4 → n < 65536 ^ j → (∀ u ∈ l,0 ≤ u ∧ u < 65536) → 0 ≤ packI l (n : Int) ∧ packI l (n : Int) < (65536 ^ (j + l.length) : Nat)
 | [],j,n,_,hn,_ => by
  simp only [packI,zc32,Nat.add_zero]
  omega
 | x :: l,j,n,hj,hn,hl => by
  obtain ⟨u1,u2⟩ := hl x (by simp)
  obtain ⟨k,rfl⟩ := Int.eq_ofNat_of_zero_le u1
  simp only [zc21] at hj
  have hp : 65536 ^ j ≤ 65536 ^ 3 := Nat.pow_le_pow_right (by omega) (by omega)
  have hs : aop .shl .u64 (n : Int) 16 = ((2 ^ 16 * n : Nat) : Int) := zq1243 n 16 (by omega) (by omega)
  rw [packI,hs,zq948 n k 16 (by omega) (by omega),zc21,show j + (l.length + 1) = j + 1 + l.length by omega]
  exact zq984 l (j + 1) (2 ^ 16 * n + k) (by omega) (by rw [Nat.pow_succ]; omega) fun u hu => hl u (by simp [hu])
theorem zq983 {l : List Int} (h : ∀ u ∈ l,0 ≤ u ∧ u < 65536) : (packA l).wf ∧ chkA (packA l) = 0 := by
 have b := fun (m : List Int) (hm : m.length ≤ 4) (hs : ∀ u ∈ m,u ∈ l) => zq984 m 0 0 (by omega) (by decide) fun u hu => h u (hs u hu)
 have key : ∀ m : List Int,m.length ≤ 4 → (∀ u ∈ m,u ∈ l) → 0 ≤ packI m 0 ∧ packI m 0 < 18446744073709551616 := fun m hm hs => by
  obtain ⟨b1,b2⟩ := b m hm hs
  refine ⟨b1,Int.lt_of_lt_of_le b2 ?_⟩
  have : 65536 ^ (0 + m.length) ≤ 65536 ^ 4 := Nat.pow_le_pow_right (by omega) (by omega)
  omega
 obtain ⟨h1,h2⟩ := key (l.take 4) (by simp; omega) fun u hu => List.mem_of_mem_take hu
 obtain ⟨h3,h4⟩ := key ((l.drop 4).take 4) (by simp; omega) fun u hu => List.mem_of_mem_drop (List.mem_of_mem_take hu)
 exact ⟨⟨h1,h2,h3,h4⟩,rfl⟩
theorem zq1569 {s : ByteArray} {a : Ad} (h : toldF s = some a) : a.wf ∧ chkA a = 0 := by
 unfold toldF at h
 split at h
 ·unfold zq1255 at h
  split at h
  ·split at h
   ·cases h
   ·rename_i l hl
    split at h
    ·cases h
    ·rename_i m hm
     split at h
     ·cases h
     ·injection h with h
      subst h
      refine zq983 fun u hu => ?_
      rcases zc36.1 hu with hu | hu
      ·rcases zc36.1 hu with hu | hu
       ·exact zq1301 hl u hu
       ·rw [(List.mem_replicate.1 hu).2]; omega
      ·exact zq1301 hm u hu
  ·split at h
   ·cases h
   ·rename_i l hl
    split at h
    ·injection h with h
     subst h
     exact zq983 (zq1301 hl)
    ·cases h
 ·obtain ⟨n,hn,h⟩ := zc7.1 h
  subst h
  obtain ⟨n1,n2⟩ := zq455 hn
  refine ⟨⟨by show (0 : Int) ≤ 0; omega,by show (0 : Int) < 18446744073709551616; omega,n1,by show n < 18446744073709551616; omega⟩,?_⟩
  unfold chkA
  rw [if_neg]
  simp
  omega
theorem zq589 (c : UInt8) (k : Nat) : ∀ xs : List (List UInt8),xs ≠ [] → (∀ x ∈ xs,x.length ≤ k) → (Lib.join xs [c]).length + 1 ≤ (k + 1) * xs.length
 | [],h,_ => absurd rfl h
 | [x],_,h => by
  rw [Lib.join_one]
  have := h x (by simp)
  simp
  omega
 | x :: y :: r,_,h => by
  have h1 := h x (by simp)
  have h2 := zq589 c k (y :: r) (by simp) (fun z hz => h z (by simp [hz]))
  rw [zq587]
  simp only [zc24,zc21] at h2 ⊢
  rw [Nat.mul_add (k + 1) (r.length + 1) 1]
  omega
theorem zq1253 {a : Ad} {T : List UInt8} (h : Six a T) : T.length ≤ 39 := by
 have hl : ∀ gs : List Nat,(∀ g ∈ gs,g < 65536) → ∀ x ∈ gs.map hex4,x.length ≤ 4 := fun gs hg x hx => by
  obtain ⟨g,hg',rfl⟩ := List.mem_map.1 hx
  exact (zq505 g (hg g hg')).2.2.1
 rcases h with rfl | ⟨x,m,m1,hr,rfl⟩
 ·have := zq589 58 4 ((gsA a).map hex4) (by simp [gsA]) (hl _ (zq496 a))
  rw [zc37,show (gsA a).length = 8 by simp [gsA]] at this
  unfold joinG
  omega
 ·have h1 := zq582 (gs := (gsA a).take x) fun g hg => zq496 a g (List.mem_of_mem_take hg)
  have h2 := zq582 (gs := (gsA a).drop (x + m)) fun g hg => zq496 a g (List.mem_of_mem_drop hg)
  have := hr.1
  simp only [zc24,zc21,zc32]
  rw [zc20,show (gsA a).length = 8 by simp [gsA]] at h1
  rw [List.length_drop,show (gsA a).length = 8 by simp [gsA]] at h2
  omega
theorem zq457 (n : Nat) : (text4 n).length ≤ 15 := by
 have := zq589 46 3 [dec3 (n / 2 ^ 24 % 256),dec3 (n / 2 ^ 16 % 256),dec3 (n / 2 ^ 8 % 256),dec3 (n % 256)] (by simp) fun x hx => by
  simp only [zc28,zc38,or_false] at hx
  rcases hx with rfl | rfl | rfl | rfl <;> exact (zq311 _ (by omega)).2.1
 unfold text4
 simp at this ⊢
 omega
theorem zq1546 {a : Ad} (h : a.wf) (hc : chkA a = 0) : ∃ T : List UInt8,zq122 a = some (⟨T.toArray⟩,()) ∧ toldF ⟨T.toArray⟩ = some a ∧ T.length ≤ 39 := by
 cases hv : a.v6
 ·obtain ⟨h1,h2,h3,h4⟩ := id h
  have hcc : a.hi = 0 ∧ a.lo < 4294967296 := by
   unfold chkA at hc
   split at hc
   ·cases hc
   ·rename_i hn
    rw [hv] at hn
    simp only [true_and,not_or,ne_eq,zc51,Int.not_le] at hn
    exact hn
  refine ⟨text4 a.lo.toNat,zq1565 h hv,?_,Nat.le_trans (zq457 _) (by omega)⟩
  rw [zq1573 (by omega)]
  obtain ⟨v,hi,lo⟩ := a
  simp only at hcc hv h3 ⊢
  rw [hv,hcc.1]
  congr 2
  omega
 ·obtain ⟨T,t1,t2⟩ := text6 h hv
  exact ⟨T,t1,zq1578 h hv t2,zq1253 t2⟩
end Go.Ma
namespace Go.Ma
open Go
theorem zq302 (n k : Nat) : cutN n k = n ↔ n % 2 ^ k = 0 := by
 unfold cutN
 have := Nat.div_add_mod n (2 ^ k)
 rw [Nat.mul_comm] at this
 omega
theorem zq300 {a : Ad} (h : a.wf) (bits : Int) : cutA a bits = a ↔ cutN a.num (wid a.v6 - bits.toNat) = a.num := by
 unfold cutA
 constructor
 ·intro he
  have := congrArg Ad.num he
  rwa [zq866] at this
 ·intro he
  rw [he,zq882 a h]
theorem zq874 (l : List UInt8) : (zq871 l).data.toList = l := by simp [zq871]
theorem zq875 (l : List UInt8) : (zq871 l).size = l.length := by simp [zq871,ByteArray.size]
end Go.Ma
namespace Go.Ma
open Go
theorem zq105 (a b : Ad) : zq107 a b = some (ordA a b,()) := by
 unfold zq107 zq101 ordA ordI
 by_cases hv : a.v6 = b.v6
 ·have : beqB a.v6 b.v6 = true := by simp [beqB,hv]
  rw [this]
  simp only [zc10,zq233,zq220,hv,ne_eq,not_true,false_and,if_false]
  by_cases h1 : a.hi = b.hi
  ·simp only [h1,decide_true,zc10,zq233,not_true,if_false]
   by_cases h2 : a.lo < b.lo
   ·simp only [h2,decide_true,zq235,zq220,if_true]
   ·by_cases h3 : a.lo > b.lo
    ·simp only [h2,h3,decide_true,decide_false,zq235,zq233,zq220,if_true,if_false]
    ·simp only [h2,h3,decide_false,zq233,zq220,if_false]
  ·simp only [h1,decide_false,zc19,zq235,not_false_eq_true,if_true]
   by_cases h2 : a.hi < b.hi
   ·simp only [h2,decide_true,zq235,zq220,if_true]
   ·by_cases h3 : a.hi > b.hi
    ·simp only [h2,h3,decide_true,decide_false,zq235,zq233,zq220,if_true,if_false]
    ·simp only [h2,h3,decide_false,zq233,zq220,if_false]
 ·have : beqB a.v6 b.v6 = false := by simp [beqB,hv]
  rw [this]
  cases hb : b.v6 <;> simp_all [zq235,zq233]
theorem zq273 {p : Pf} (h : chkP p = 0) : chkA p.ad = 0 := by
 unfold chkP at h
 split at h
 ·rename_i h1; exact absurd h h1
 ·rename_i h1; exact zc51.1 h1
theorem zq275 {p : Pf} (h : chkP p = 0) : cutA p.ad p.bits = p.ad := by
 unfold chkP at h
 split at h
 ·rename_i h1; exact absurd h h1
 split at h
 ·cases h
 split at h
 ·cases h
 ·rename_i h1; exact zc51.1 h1
theorem zq1055 {p : Pf} {a : Ad} (h1 : 0 ≤ p.bits) (h2 : p.bits ≤ (wid p.ad.v6 : Nat)) (ha : a.In) : zq1057 p a = some (holds p a,()) := by
 unfold zq1057 holds
 by_cases hv : p.ad.v6 = a.v6
 ·rw [show beqB p.ad.v6 a.v6 = true by simp [beqB,hv],zq235,zq1046 a ha.wf p.bits h1 (by rw [← hv]; exact h2),zq220,zq220,zq390]
  simp [hv]
 ·rw [show beqB p.ad.v6 a.v6 = false by simp [beqB,hv],zq233,zq220]
  simp [hv]
end Go.Ma
namespace Go.Ma
open Go
end Go.Ma
namespace Go.Ma
open Go
end Go.Ma
namespace Go.Ma
open Go
def zq994 (s : ByteArray) : Ad × Int × Unit := match toldF s with | some a => (a,0,()) | none => (⟨false,0,0⟩,1,())
theorem zq111 {s : ByteArray} (hs : s.size ≤ 4294967200) : zq113 s = some (zq994 s) := by
 unfold zq113 zq155 zq994 toldA
 rw [zq1187 (Nat.ble_eq_true_of_le hs),zq220]
 cases toldF s <;> rfl
end Go.Ma
namespace Go.Ma
open Go
def lowB (b : UInt8) : Bool := betw (b.toNat : Int) 97 122 || betw (b.toNat : Int) 48 57
def whoOk (s : ByteArray) : Bool := s.data.toList.all lowB && betw (lenS s) 1 8
theorem zq761 (x a b : Int) : zq763 x a b = some (betw x a b,()) := by
 unfold zq763
 rw [br_ss,zq220,zq217]
theorem zq749 {s : ByteArray} (h : strIn s) : zq751 s = some (whoOk s,()) := by
 have hs : s.size < 9223372036854775808 := zq808 h
 have hl : ∀ i,i ≤ s.size → loopN zq743 FUEL (((s,()),(lenS s,()),((i : Int),()),()),()) = some (if (s.data.toList.drop i).all lowB then Sum.inr (((s,()),()),()) else Sum.inl ((((false : Bool),()),()),())) := by
  intro i hi
  refine zq792 (fun i => ((((s,()),(lenS s,()),((i : Int),()),()),()) : (((ByteArray × Unit) × (Int × Unit) × (Int × Unit) × Unit) × (Unit)))) s.size (fun i => some (if (s.data.toList.drop i).all lowB then Sum.inr (((s,()),()),()) else Sum.inl ((((false : Bool),()),()),()))) (fun rec i hi hr => ?_) (fun rec => ?_) FUEL i hi (zq463 (by omega))
  ·obtain ⟨b,hb⟩ : ∃ b,s.data.toList[i]? = some b := ⟨_,zc0 (by rw [zq309]; exact hi)⟩
   simp only [zq743]
   rw [decide_eq_true (show (i : Int) < lenS s by unfold lenS; omega),zq235,zq1187 (zq525 (by omega) (by unfold lenS; omega)),zq241 hb]
   rw [br_ss,zq220]
   simp only [br_ss,zq220]
   rw [show ((i : Int) + 1) = ((i + 1 : Nat) : Int) by omega] 
   rw [zq1187 (zq519 (by omega) (by omega)),hr,zq367 lowB hb]
   have : (bif !(bif decide ((b.toNat : Int) ≥ 97) then decide ((b.toNat : Int) ≤ 122) else false) then (bif decide ((b.toNat : Int) ≥ 48) then !decide ((b.toNat : Int) ≤ 57) else true) else false) = !lowB b := by
    rw [zq217]
    unfold lowB
    cases betw (b.toNat : Int) 97 122
    ·unfold betw
     by_cases h1 : (48 : Int) ≤ b.toNat <;> simp [h1]
    ·rfl
   rw [this]
   cases lowB b <;> simp [zq235,zq233]
  ·simp only [zq743]
   rw [decide_eq_false (show ¬ (s.size : Int) < lenS s by unfold lenS; omega),zq233,zc18 (by rw [zq309]; exact zc49 _)]
   rfl
 unfold zq751 whoOk
 have := hl 0 (Nat.zero_le _)
 rw [List.drop_zero] at this
 rw [show ((0 : Nat) : Int) = 0 from rfl] at this
 rw [this,zq220]
 cases s.data.toList.all lowB
 ·rfl
 ·simp only [if_true,sumC,zq761,zq220,Bool.true_and]
theorem zq699 {p : Pf} (h : chkP p = 0) : zq701 p = some (decide (((wid p.ad.v6 : Nat) : Int) - p.bits ≤ 4),()) := by
 obtain ⟨h1,h2⟩ := zq274 h
 have := zq1628 p.ad.v6
 unfold zq701
 rw [zq1097,zq220,zq1187 (zq519 (by simp only; omega) (by simp only; omega))]
end Go.Ma
namespace Go.Ma
open Go
def rank (a : Ad) : Nat := (if a.v6 then 340282366920938463463374607431768211456 else 0) + a.num
theorem zq865 {a : Ad} (h : a.In) : a.num < 340282366920938463463374607431768211456 := by
 obtain ⟨⟨h1,h2⟩,h3,h4⟩ := h
 unfold Ad.num
 omega
theorem zq956 {a b : Ad} (ha : a.In) (hb : b.In) : (ordA a b < 0 ↔ rank a < rank b) ∧ (ordA a b = 0 ↔ rank a = rank b) := by
 have h1 := zq865 ha
 have h2 := zq865 hb
 obtain ⟨⟨a1,a2⟩,a3,a4⟩ := ha
 obtain ⟨⟨b1,b2⟩,b3,b4⟩ := hb
 unfold ordA ordI rank
 unfold Ad.num at *
 cases hv : a.v6 <;> cases hw : b.v6 <;> simp
 ·by_cases h : a.hi = b.hi
  ·simp only [h,if_true]
   by_cases h3 : a.lo < b.lo
   ·simp only [h3,if_true]; omega
   ·by_cases h4 : b.lo < a.lo
    ·simp only [h3,h4,if_true,if_false]; omega
    ·have h5 : a.lo = b.lo := by omega
     simp [h5]
  ·simp only [h,if_false]
   by_cases h3 : a.hi < b.hi
   ·simp only [h3,if_true]; omega
   ·by_cases h4 : b.hi < a.hi
    ·simp only [h3,h4,if_true,if_false]; omega
    ·simp only [h3,h4,if_false]; omega
 ·omega
 ·omega
 ·by_cases h : a.hi = b.hi
  ·simp only [h,if_true]
   by_cases h3 : a.lo < b.lo
   ·simp only [h3,if_true]; omega
   ·by_cases h4 : b.lo < a.lo
    ·simp only [h3,h4,if_true,if_false]; omega
    ·have h5 : a.lo = b.lo := by omega
     simp [h5]
  ·simp only [h,if_false]
   by_cases h3 : a.hi < b.hi
   ·simp only [h3,if_true]; omega
   ·by_cases h4 : b.hi < a.hi
    ·simp only [h3,h4,if_true,if_false]; omega
    ·simp only [h3,h4,if_false]; omega
theorem zq1153 {a b : Ad} (ha : a.In) (hb : b.In) (h : rank a = rank b) : a = b := by
 have h1 := zq865 ha
 have h2 := zq865 hb
 unfold rank at h
 have hv : a.v6 = b.v6 := by
  cases hv : a.v6 <;> cases hw : b.v6 <;> first | rfl | (exfalso; rw [hv,hw] at h; simp at h; omega)
 refine zq864 ha.wf hb.wf hv ?_
 rw [hv] at h
 omega
def lsIn (l : List Ls) : Prop := ∀ x ∈ l,x.In
def chkLs (x : Ls) : Int := if chkA x.ad ≠ 0 then chkA x.ad else if whoOk x.who = false then 1 else if betw x.upto 0 10499 = false then 3 else 0
def zq267 : List Ls → Int
 | [] => 0
 | x :: r => if chkLs x ≠ 0 then chkLs x else zq267 r
def ascF : Ad → List Ls → Bool
 | _,[] => true
 | a,x :: r => decide (ordA a x.ad < 0) && ascF x.ad r
def ascL : List Ls → Bool
 | [] => true
 | x :: r => ascF x.ad r
def allC (l : List Ls) (now : Int) : Int := if l.length > 20 then 2 else if zq267 l ≠ 0 then zq267 l else if ascL l = false then 4 else if betw now 0 9999 = false then 3 else 0
theorem zq755 {x : Ls} (h : x.In) : zq757 x = some (chkLs x,()) := by
 unfold zq757 chkLs
 rw [zq94,zq220]
 by_cases hc : chkA x.ad = 0
 ·simp only [hc,decide_true,zc10,zq233,ne_eq,not_true,if_false]
  rw [zq749 h.2.1,zq220]
  cases whoOk x.who
  ·rfl
  ·simp only [zc10,zq233,Bool.true_eq_false,if_false]
   rw [zq761,zq220]
   cases betw x.upto 0 10499 <;> rfl
 ·simp only [hc,decide_false,zc19,zq235,ne_eq,not_false_eq_true,if_true]
def lsOut (l : List Ls) (now : Int) (r : Int) : (((Int × Unit) × Unit) × (List Ls × Unit)) ⊕ (((Unit) × (Int × Unit) × Unit) × (List Ls × Unit)) := if r = 0 then Sum.inr (((),(now,()),()),l,()) else Sum.inl (((r,()),()),l,())
def zq201 (l : List Ls) (now : Int) (r : Bool) : (((Int × Unit) × Unit) × (List Ls × Unit)) ⊕ (((Int × Unit) × Unit) × (List Ls × Unit)) := if r = true then Sum.inr (((now,()),()),l,()) else Sum.inl (((4,()),()),l,())
theorem zq803 {l : List Ls} {now r : Int} (h : r ≠ 0) : lsOut l now r = Sum.inl (((r,()),()),l,()) := by rw [lsOut,if_neg h]
def ascAt (l : List Ls) (i : Nat) : Bool := match l[i - 1]? with | some p => ascF p.ad (l.drop i) | none => true
theorem zq199 (l : List Ls) : ascAt l 1 = ascL l := by cases l <;> rfl
theorem zq170 {l : List Ls} (h : lsIn l) (hlen : l.length ≤ 20) (now : Int) : loopN zq664 FUEL (((),(now,()),(),(lenL l,()),(0,()),()),(l,())) = some (lsOut l now (zq267 l)) := by
 have := zq792 (step := zq664) (fun i => (((),(now,()),(),(lenL l,()),((i : Int),()),()),(l,()))) l.length (fun i => some (lsOut l now (zq267 (l.drop i)))) (fun rec i hi hr => ?_) (fun rec => ?_) FUEL 0 (Nat.zero_le _) (zq463 (by omega))
 ·exact this
 ·obtain ⟨e,he⟩ : ∃ e,l[i]? = some e := ⟨_,zc0 hi⟩
  simp only [zq664]
  rw [decide_eq_true (show (i : Int) < lenL l by unfold lenL; omega),zq235,zq1187 (zq525 (by omega) (by unfold lenL; omega)),zq471 he,zq220,zq755 (h e (zc5 he)),zq220,zq368 he,zq267]
  by_cases hc : chkLs e = 0
  ·rw [if_neg (fun h => h hc),decide_eq_true hc,zc10,zq233,show ((i : Int) + 1) = ((i + 1 : Nat) : Int) by omega,zq1187 (zq519 (by omega) (by omega)),hr]
  ·rw [if_pos hc,decide_eq_false hc,zc19,zq235,zq803 hc]
 ·simp only [zq664]
  rw [decide_eq_false (show ¬ (l.length : Int) < lenL l by unfold lenL; omega),zq233,zc18 (zc49 _)]
  rfl
theorem zq171 {l : List Ls} (hlen : l.length ≤ 20) (now : Int) : loopN zq661 FUEL (((),(now,()),(1,()),()),(l,())) = some (zq201 l now (ascL l)) := by
 have := zq793 (step := zq661) (fun i => (((),(now,()),((i : Int),()),()),(l,()))) (max 1 l.length) (fun i => some (zq201 l now (ascAt l i))) (fun i => 1 ≤ i) (fun rec i hi h1 hr => ?_) (fun rec h1 => ?_) FUEL 1 (by omega) (zc49 _) (zq463 (by omega))
 ·rw [zq199] at this
  exact this
 ·have hi' : i < l.length := by omega
  obtain ⟨k,rfl⟩ : ∃ k,i = k + 1 := ⟨i - 1,by omega⟩
  obtain ⟨e,he⟩ : ∃ e,l[k]? = some e := ⟨_,zc0 (by omega)⟩
  obtain ⟨e',he'⟩ : ∃ e,l[k + 1]? = some e := ⟨_,zc0 hi'⟩
  have r1 : zq523 ((k + 1 : Nat) : Int) (lenL l) = true := zq525 (by omega) (by unfold lenL; omega)
  have r2 : zq523 (k : Int) (lenL l) = true := zq525 (by omega) (by unfold lenL; omega)
  simp only [zq661]
  rw [decide_eq_true (show ((k + 1 : Nat) : Int) < lenL l by unfold lenL; omega),zq235,show (((k + 1 : Nat) : Int) - 1) = (k : Int) by omega,zq1187 (zq519 (by omega) (by omega))]
  simp only [r1,r2,zq1189,zq471 he,zq471 he',zq220,zq105]
  have ha : ascAt l (k + 1) = (decide (ordA e.ad e'.ad < 0) && ascAt l (k + 1 + 1)) := by
   unfold ascAt
   simp only [Nat.add_sub_cancel,he,he']
   rw [zq368 he',ascF]
  rw [ha]
  by_cases hc : ordA e.ad e'.ad < 0
  ·rw [decide_eq_false (show ¬ ordA e.ad e'.ad ≥ 0 by omega),zq233,show (((k + 1 : Nat) : Int) + 1) = ((k + 1 + 1 : Nat) : Int) by omega,zq1187 (zq519 (by omega) (by omega)),hr (by omega),decide_eq_true hc,Bool.true_and]
  ·rw [decide_eq_true (show ordA e.ad e'.ad ≥ 0 by omega),zq235,decide_eq_false hc,Bool.false_and]
   rfl
 ·simp only [zq661]
  rw [decide_eq_false (show ¬ ((max 1 l.length : Nat) : Int) < lenL l by unfold lenL; omega),zq233]
  have : ascAt l (max 1 l.length) = true := by
   unfold ascAt
   rw [zc18 (by omega)]
   cases l[max 1 l.length - 1]? <;> rfl
  rw [this]
  rfl
theorem zq670 {l : List Ls} (h : lsIn l) (now : Int) : zq672 l now = some (allC l now,()) := by
 unfold zq672 allC
 by_cases hlen : l.length > 20
 ·rw [if_pos hlen,decide_eq_true (show lenL l > 20 by unfold lenL; omega),zq235]
 rw [if_neg hlen,decide_eq_false (show ¬ lenL l > 20 by unfold lenL; omega),zq233,zq170 h (by omega),zq220]
 by_cases hc : zq267 l = 0
 rotate_left
 ·rw [zq803 hc,if_pos hc]; rfl
 rw [if_neg (fun h => h hc),hc]
 simp only [lsOut,if_true,sumC]
 rw [zq171 (by omega),zq220]
 cases ascL l
 ·rfl
 ·simp only [zq201,if_true,sumC,Bool.true_eq_false,if_false,zq761,zq220]
  cases betw now 0 9999 <;> rfl
end Go.Ma
namespace Go.Ma
open Go
end Go.Ma
namespace Go.Ma
open Go
def zq413 {α : Type} (q : α → Bool) : List α → Option Nat
 | [] => none
 | x :: r => if q x then some 0 else (zq413 q r).map (· + 1)
theorem zq415 {α : Type} {q : α → Bool} {l : List α} {i : Nat} {x : α} (h : l[i]? = some x) : (zq413 q (l.drop i)).map (· + i) = if q x then some i else (zq413 q (l.drop (i + 1))).map (· + (i + 1)) := by
 rw [zq368 h,zq413]
 cases q x
 ·simp only [zc16,if_false,Option.map_map]
  congr 1
  funext k
  simp only [Function.comp]
  omega
 ·simp
theorem zq417 {α : Type} {q : α → Bool} : ∀ {l : List α},zq413 q l = none → ∀ x ∈ l,q x = false
 | [],_,x,hx => by cases hx
 | y :: r,h,x,hx => by
  unfold zq413 at h
  split at h
  ·cases h
  ·rename_i hq
   rw [Option.map_eq_none_iff] at h
   rcases zc28.1 hx with rfl | hx
   ·simpa using hq
   ·exact zq417 h x hx
theorem zq418 {α : Type} {q : α → Bool} : ∀ {l : List α} {k : Nat},zq413 q l = some k → ∃ x,l[k]? = some x ∧ q x = true ∧ ∀ y ∈ l.take k,q y = false
 | [],_,h => by cases h
 | y :: r,k,h => by
  unfold zq413 at h
  split at h
  ·rename_i hq
   cases h
   exact ⟨y,rfl,hq,fun z hz => by simp at hz⟩
  ·rename_i hq
   obtain ⟨k',hk,rfl⟩ := zc7.1 h
   obtain ⟨x,h1,h2,h3⟩ := zq418 hk
   refine ⟨x,by simpa using h1,h2,fun z hz => ?_⟩
   rw [List.take_succ_cons] at hz
   rcases zc28.1 hz with rfl | hz
   ·simpa using hq
   ·exact h3 z hz
theorem zq416 {α : Type} {q : α → Bool} {l : List α} {k : Nat} (h : zq413 q l = some k) : k < l.length := by
 obtain ⟨x,h1,_⟩ := zq418 h
 exact (zc1.1 h1).1
theorem zq414 {α : Type} {q : α → Bool} : ∀ l : List α,(zq413 q l).isSome = l.any q
 | [] => rfl
 | x :: r => by
  unfold zq413
  cases h : q x
  ·simp [h,zq414 r]
  ·simp [h]
def idxI : Option Nat → Int
 | some k => (k : Int)
 | none => -1
def liveP (now : Int) (x : Ls) : Bool := decide (now ≤ x.upto)
def live (l : List Ls) (now : Int) : List Ls := l.filter (liveP now)
def overP (now : Int) (x : Ls) : Bool := decide (x.upto < now)
theorem zq964 (now : Int) (x : Ls) : overP now x = !liveP now x := by
 unfold overP liveP
 by_cases h : x.upto < now
 ·have : ¬ now ≤ x.upto := by omega
  simp [h,this]
 ·have : now ≤ x.upto := by omega
  simp [h,this]
abbrev DL := List Ls × (Int × Unit) × List Ls × List Ls × List Ls × Unit
def zq962 (l : List Ls) (now : Int) : Option Nat → (((Int × Unit) × Unit) × DL) ⊕ ((Unit) × DL)
 | some k => Sum.inl ((((k : Int),()),()),(l,(now,()),[],l,[],()))
 | none => Sum.inr ((),(l,(now,()),[],l,[],()))
theorem zq780 {l : List Ls} (hlen : l.length ≤ 1048576) (now : Int) : loopN zq689 FUEL (((),(),(lenL l,()),(0,()),()),(l,(now,()),[],l,[],())) = some (zq962 l now (zq413 (overP now) l)) := by
 have := zq792 (step := zq689) (fun i => (((),(),(lenL l,()),((i : Int),()),()),(l,(now,()),[],l,[],()))) l.length (fun i => some (zq962 l now ((zq413 (overP now) (l.drop i)).map (· + i)))) (fun rec i hi hr => ?_) (fun rec => ?_) FUEL 0 (Nat.zero_le _) (zq463 (by omega))
 ·simpa using this
 ·obtain ⟨e,he⟩ : ∃ e,l[i]? = some e := ⟨_,zc0 hi⟩
  simp only [zq689]
  rw [decide_eq_true (show (i : Int) < lenL l by unfold lenL; omega),zq235,zq1187 (zq525 (by omega) (by unfold lenL; omega)),zq471 he,zq220,zq677,zq220,zq415 he]
  unfold overP
  by_cases hc : e.upto < now
  ·simp only [hc,decide_true,zq235,if_true]
   rfl
  ·simp only [hc,decide_false,zq233]
   rw [show ((i : Int) + 1) = ((i + 1 : Nat) : Int) by omega,zq1187 (zq519 (by omega) (by omega)),hr]
   rfl
 ·simp only [zq689]
  rw [decide_eq_false (show ¬ (l.length : Int) < lenL l by unfold lenL; omega),zq233,zc18 (zc49 _)]
  rfl
theorem zq781 {l : List Ls} (hlen : l.length ≤ 1048576) (now : Int) : ∀ (N j w : Nat) (r : List Ls),l.length - j < N → j ≤ l.length → w < j → r.length = l.length → r.take w = live (l.take j) now → r.drop j = l.drop j →
  ∃ (w' : Nat) (r' : List Ls),loopN zq683 N (((),(),((w : Int),()),((j : Int),()),()),(l,(now,()),[],r,())) = some (((),((w' : Int),()),()),(l,(now,()),[],r',())) ∧ r'.take w' = live l now ∧ w' ≤ r'.length
 | 0,_,_,_,h,_,_,_,_,_ => by omega
 | N + 1,j,w,r,hN,hj,hw,hr,ht,hd => by
  rw [zq789]
  simp only [zq683]
  by_cases hjl : j < l.length
  ·obtain ⟨e,he⟩ : ∃ e,l[j]? = some e := ⟨_,zc0 hjl⟩
   have her : r[j]? = some e := by
    have := congrArg (fun x : List Ls => x[0]?) hd
    simp only [zc40,Nat.add_zero] at this
    rw [this,he]
   have hlt : live (l.take (j + 1)) now = live (l.take j) now ++ (if liveP now e then [e] else []) := by
    unfold live
    have hx := (zc1.1 he).2
    rw [zc26 hjl,List.filter_append,hx]
    congr 1
    simp only [List.filter_cons,List.filter_nil]
   have hd1 : r.drop (j + 1) = l.drop (j + 1) := by
    have := congrArg (List.drop 1) hd
    simpa using this
   rw [decide_eq_true (show (j : Int) < lenL r by unfold lenL; omega),zq235,zq1187 (zq525 (by omega) (by unfold lenL; omega)),zq471 her,zq220,zq677,zq220]
   have ho := zq964 now e
   unfold overP at ho
   cases hp : liveP now e
   ·rw [hp] at ho hlt
    simp only [ho,zc19,zc10,zq233]
    rw [show ((j : Int) + 1) = ((j + 1 : Nat) : Int) by omega,zq1187 (zq519 (by omega) (by omega))]
    exact zq781 hlen now N (j + 1) w r (by omega) (by omega) (by omega) hr (by rw [ht,hlt]; simp) hd1
   ·rw [hp] at ho hlt
    obtain ⟨e2,he2⟩ : ∃ e,r[w]? = some e := ⟨_,zc0 (by omega)⟩
    simp only [ho,zc19,zc10,zq235]
    rw [zq1187 (zq525 (by omega) (by unfold lenL; omega)),zq471 he2,zq220,show ((j : Int) + 1) = ((j + 1 : Nat) : Int) by omega,show ((w : Int) + 1) = ((w + 1 : Nat) : Int) by omega,zq1187 (zq519 (by omega) (by omega)),zq1187 (zq519 (by omega) (by omega))]
    have hs : seti r (w : Int) e = r.set w e := by simp [seti]
    rw [hs]
    refine zq781 hlen now N (j + 1) (w + 1) (r.set w e) (by omega) (by omega) (by omega) (by simp [hr]) ?_ ?_
    ·rw [hlt,← ht]
     have hwl : w < (r.set w e).length := by simp; omega
     rw [zc26 hwl,List.take_set_of_le (zc49 _)]
     simp
    ·rw [List.drop_set_of_lt (by omega),hd1]
  ·have : j = l.length := by omega
   subst this
   rw [decide_eq_false (show ¬ (l.length : Int) < lenL r by unfold lenL; omega),zq233]
   rw [List.take_of_length_le (zc49 _)] at ht
   exact ⟨w,r,rfl,ht,by omega⟩
theorem zq289 {l : List Ls} (h : l.length ≤ 1048576) : zq1274 l = some (l,()) := by
 unfold zq1274
 rw [zq1187 (zq1201 (by simp [lenL]) (zq765 l) (by unfold lenL; simp; omega)),List.nil_append]
 cases l with
 | nil => exact zq231 _
 | cons a r => rfl
theorem zq681 {l : List Ls} (h : l.length ≤ 1048576) (now : Int) : zq695 l now = some (live l now,()) := by
 unfold zq695
 rw [zq289 h,zq220,zq780 h now,zq220]
 cases hf : zq413 (overP now) l with
 | none =>
  simp only [zq962,sumC]
  have : live l now = l := by
   unfold live
   rw [List.filter_eq_self]
   intro x hx
   have := zq417 hf x hx
   rw [zq964] at this
   simpa using this
  rw [this]
 | some k =>
  obtain ⟨x,hx,hq,hb⟩ := zq418 hf
  have hk := zq416 hf
  simp only [zq962,sumC]
  rw [decide_eq_false (show ¬ (k : Int) = -1 by omega),zq233,zq1187 (zq519 (by omega) (by omega)),show ((k : Int) + 1) = ((k + 1 : Nat) : Int) by omega]
  have hlk : live (l.take (k + 1)) now = l.take k := by
   unfold live
   have hxe := (zc1.1 hx).2
   rw [zc26 hk,List.filter_append,hxe]
   have h1 : (l.take k).filter (liveP now) = l.take k := by
    rw [List.filter_eq_self]
    intro y hy
    have := hb y hy
    rw [zq964] at this
    simpa using this
   have h2 : liveP now x = false := by
    rw [zq964] at hq
    simpa using hq
   rw [h1,List.filter_cons,h2]
   simp
  obtain ⟨w',r',hl,ht,hw⟩ := zq781 h now FUEL (k + 1) k l (by have : FUEL = 18446744073709551616 := rfl; omega) (by omega) (by omega) rfl (by rw [hlk]) rfl
  rw [hl,zq220]
  have hc : (clrL r' (w' : Int) (⟨(⟨false,0,0⟩ : Ad),(ByteArray.empty),0⟩ : Ls)).length = r'.length := by simp [clrL]; omega
  have hz : (decide ((0 : Int) ≤ (w' : Int)) && decide ((w' : Int) ≤ lenL r')) = true := by simp [lenL]; omega
  have hz2 : (decide ((0 : Int) ≤ (w' : Int)) && decide ((w' : Int) ≤ lenL (clrL r' (w' : Int) (⟨(⟨false,0,0⟩ : Ad),(ByteArray.empty),0⟩ : Ls)))) = true := by
   unfold lenL
   rw [hc]
   exact hz
  rw [zq1187 hz,zq1187 hz2]
  have : subL (clrL r' (w' : Int) (⟨(⟨false,0,0⟩ : Ad),(ByteArray.empty),0⟩ : Ls)) 0 (w' : Int) = r'.take w' := by
   simp [subL,clrL,List.take_append_of_le_length,hw]
  rw [this,ht]
theorem zq779 (l : List Ls) (now : Int) : (live l now).length ≤ l.length := List.length_filter_le _ _
theorem zq166 {l : List Ls} {now : Int} (h : allC l now = 0) : l.length ≤ 20 := by
 unfold allC at h
 split at h
 ·cases h
 ·omega
def whoP (who : ByteArray) (x : Ls) : Bool := decide (x.who = who)
end Go.Ma
namespace Go.Ma
open Go
theorem zq270 {x : Ls} (h : chkLs x = 0) : chkA x.ad = 0 ∧ whoOk x.who = true ∧ betw x.upto 0 10499 = true := by
 unfold chkLs at h
 split at h
 ·rename_i h1; exact absurd h h1
 split at h
 ·cases h
 split at h
 ·cases h
 ·rename_i h1 h2 h3
  exact ⟨zc51.1 h1,by simpa using h2,by simpa using h3⟩
theorem zq268 : ∀ {l : List Ls},zq267 l = 0 → ∀ x ∈ l,chkLs x = 0
 | [],_,x,hx => by cases hx
 | y :: r,h,x,hx => by
  unfold zq267 at h
  split at h
  ·rename_i h1; exact absurd h h1
  ·rename_i h1
   rcases zc28.1 hx with rfl | hx
   ·exact zc51.1 h1
   ·exact zq268 h x hx
theorem zq167 {l : List Ls} {now : Int} (h : allC l now = 0) : l.length ≤ 20 ∧ (∀ x ∈ l,chkLs x = 0) ∧ ascL l = true ∧ betw now 0 9999 = true := by
 have h0 := zq166 h
 unfold allC at h
 rw [if_neg (by omega)] at h
 split at h
 ·rename_i h1; exact absurd h h1
 split at h
 ·cases h
 split at h
 ·cases h
 ·rename_i h1 h2 h3
  exact ⟨h0,zq268 (zc51.1 h1),by simpa using h2,by simpa using h3⟩
def adIn (l : List Ad) : Prop := ∀ a ∈ l,a.In
def backB : Option Ad → Ad → Bool
 | some b,a => decide (ordA b a ≥ 0)
 | none,_ => false
def keptF (p : Pf) : Option Ad → List Ad → Int
 | _,[] => 0
 | prev,a :: r => if chkA a ≠ 0 then chkA a else if holds p a = false then 5 else if backB prev a = true then 4 else keptF p (some a) r
def zq276 (p : Pf) (kp : List Ad) : Int := if chkP p ≠ 0 then chkP p else if ¬ ((wid p.ad.v6 : Nat) : Int) - p.bits ≤ 4 ∨ kp.length > 6 then 2 else keptF p none kp
def prevA (kp : List Ad) (i : Nat) : Option Ad := match i with | 0 => none | k + 1 => kp[k]?
def zq1011 (kp : List Ad) (r : Int) : (((Int × Unit) × Unit) × (List Ad × Unit)) ⊕ ((Unit) × (List Ad × Unit)) := if r = 0 then Sum.inr ((),(kp,())) else Sum.inl (((r,()),()),(kp,()))
theorem zq1012 {kp : List Ad} {r : Int} (h : r ≠ 0) : zq1011 kp r = Sum.inl (((r,()),()),(kp,())) := by rw [zq1011,if_neg h]
theorem zq1015 {p : Pf} (cp : chkP p = 0) {kp : List Ad} (h : adIn kp) (hlen : kp.length ≤ 6) : loopN zq702 FUEL (((),(),(lenL kp,()),(0,()),()),(kp,(p.ad.v6,p.ad.hi,p.ad.lo,p.bits,()),())) = some (zq1011 kp (keptF p none kp)) := by
 obtain ⟨b1,b2⟩ := zq274 cp
 have := zq792 (step := zq702) (fun i => (((),(),(lenL kp,()),((i : Int),()),()),(kp,(p.ad.v6,p.ad.hi,p.ad.lo,p.bits,()),()))) kp.length (fun i => some (zq1011 kp (keptF p (prevA kp i) (kp.drop i)))) (fun rec i hi hr => ?_) (fun rec => ?_) FUEL 0 (Nat.zero_le _) (zq463 (by omega))
 ·exact this
 ·obtain ⟨e,he⟩ : ∃ e,kp[i]? = some e := ⟨_,zc0 hi⟩
  simp only [zq702]
  rw [decide_eq_true (show (i : Int) < lenL kp by unfold lenL; omega),zq235,zq1187 (zq525 (by omega) (by unfold lenL; omega)),zq471 he,zq220,zq94,zq220,zq368 he,keptF]
  by_cases hc : chkA e = 0
  rotate_left
  ·simp only [hc,decide_false,zc19,zq235,ne_eq,not_false_eq_true,if_true]
   rw [zq1012 hc]
  simp only [hc,decide_true,zc10,zq233,ne_eq,not_true,if_false]
  rw [zq1055 (p := p) b1 b2 (h e (zc5 he)),zq220]
  cases holds p e
  ·rfl
  simp only [zc10,zq233,Bool.true_eq_false,if_false]
  have hcd : (br (decide ((i : Int) > 0)) (req (i64ok ((i : Int) - 1)) (req (zq523 ((i : Int) - 1) (lenL kp)) ((geti kp ((i : Int) - 1)).bind fun p4 => (zq107 p4 e).bind fun y5 => some (decide (y5.1 ≥ 0))))) (some false)) = some (backB (prevA kp i) e) := by
   cases i with
   | zero => rfl
   | succ k =>
    obtain ⟨e',he'⟩ : ∃ e,kp[k]? = some e := ⟨_,zc0 (by omega)⟩
    rw [decide_eq_true (by omega),zq235,show (((k + 1 : Nat) : Int) - 1) = (k : Int) by omega,zq1187 (zq519 (by omega) (by omega)),zq1187 (zq525 (by omega) (by unfold lenL; omega)),zq471 he',zq220,zq105,zq220]
    simp only [prevA,he',backB]
  rw [hcd,zq220]
  have hp1 : prevA kp (i + 1) = some e := he
  cases (backB (prevA kp i) e)
  ·simp only [zq233,zc16,if_false]
   rw [show ((i : Int) + 1) = ((i + 1 : Nat) : Int) by omega,zq1187 (zq519 (by omega) (by omega)),hr,hp1]
  ·rfl
 ·simp only [zq702]
  rw [decide_eq_false (show ¬ (kp.length : Int) < lenL kp by unfold lenL; omega),zq233,zc18 (zc49 _)]
  rfl
theorem zq708 {p : Pf} (hp : p.In) {kp : List Ad} (h : adIn kp) : zq710 p kp = some (zq276 p kp,()) := by
 unfold zq710 zq276
 rw [zq1040 hp,zq220]
 by_cases hc : chkP p = 0
 rotate_left
 ·simp only [hc,decide_false,zc19,zq235,ne_eq,not_false_eq_true,if_true]
 simp only [hc,decide_true,zc10,zq233,ne_eq,not_true,if_false]
 rw [zq699 hc,zq220]
 by_cases hn : ((wid p.ad.v6 : Nat) : Int) - p.bits ≤ 4
 rotate_left
 ·simp only [hn,decide_false,zc19,zq235,zq220,not_false_eq_true,true_or,if_true]
 by_cases hk : kp.length > 6
 ·rw [if_pos (.inr hk)]
  simp only [hn,decide_true,zc10,zq233,zq220]
  rw [decide_eq_true (show lenL kp > 6 by unfold lenL; omega),zq235]
 rw [if_neg (by simp only [not_or]; exact ⟨fun h => h hn,hk⟩)]
 simp only [hn,decide_true,zc10,zq233,zq220]
 rw [decide_eq_false (show ¬ lenL kp > 6 by unfold lenL; omega),zq233,zq1015 hc h (by omega),zq220]
 unfold zq1011
 by_cases h0 : keptF p none kp = 0
 ·rw [if_pos h0,h0]; rfl
 ·rw [if_neg h0]; rfl
end Go.Ma
namespace Go.Ma
open Go
theorem zq521 (o : Option Nat) : decide (idxI o ≥ 0) = o.isSome := by
 cases o with
 | none => rfl
 | some k =>
  have : idxI (some k) ≥ 0 := by show (k : Int) ≥ 0; omega
  simp [this]
theorem zq1586 : ∀ (l : List Ls) (seen : List ByteArray) (x : Ls),zq1585 seen (l ++ [x]) = (zq1585 seen l || (seen.any (fun s => decide (s = x.who)) || l.any (whoP x.who)))
 | [],seen,x => by
  show (bif seen.any (fun s => decide (s = x.who)) then true else false) = _
  cases seen.any (fun s => decide (s = x.who)) <;> rfl
 | y :: r,seen,x => by
  show (bif seen.any (fun s => decide (s = y.who)) then true else zq1585 (y.who :: seen) (r ++ [x])) = ((bif seen.any (fun s => decide (s = y.who)) then true else zq1585 (y.who :: seen) r) || _)
  rw [zq1586 r (y.who :: seen) x]
  cases seen.any (fun s => decide (s = y.who))
  ·simp only [cond_false,List.any_cons]
   rw [show whoP x.who y = decide (y.who = x.who) from rfl]
   generalize seen.any (fun s => decide (s = x.who)) = b1
   generalize zq1585 (y.who :: seen) r = b2
   generalize r.any (whoP x.who) = b3
   generalize decide (y.who = x.who) = b4
   revert b1 b2 b3 b4
   decide
  ·rfl
def ofF (p : Pf) : List Ls → List Ls → Int
 | _,[] => 0
 | bf,x :: r => if holds p x.ad = false then 5 else if bf.any (whoP x.who) = true then 6 else ofF p (bf ++ [x]) r
def chkOf (p : Pf) (kp : List Ad) (l : List Ls) (now : Int) : Int := if zq276 p kp ≠ 0 then zq276 p kp else if allC l now ≠ 0 then allC l now else ofF p [] l
theorem zq278 {p : Pf} {kp : List Ad} (h : zq276 p kp = 0) : chkP p = 0 ∧ ((wid p.ad.v6 : Nat) : Int) - p.bits ≤ 4 ∧ kp.length ≤ 6 := by
 unfold zq276 at h
 split at h
 ·rename_i h1; exact absurd h h1
 split at h
 ·cases h
 ·rename_i h1 h2
  simp only [not_or,zc51] at h2
  exact ⟨zc51.1 h1,h2.1,by omega⟩
theorem zq1511 {l : List Ls} {i : Nat} {x : Ls} (h : l[i]? = some x) : l.take (i + 1) = l.take i ++ [x] := by
 have hi := (zc1.1 h).1
 rw [zc26 hi,(zc1.1 h).2]
end Go.Ma
namespace Go.Ma
open Go
def zq459 (p : Pf) : Nat := wid p.ad.v6 - p.bits.toNat
def addrI (p : Pf) (i : Nat) : Ad := ofNum p.ad.v6 (p.ad.num + i)
theorem zq832 {p : Pf} (hp : p.In) (cp : chkP p = 0) (hn : ((wid p.ad.v6 : Nat) : Int) - p.bits ≤ 4) : zq459 p ≤ 4 ∧ 2 ^ zq459 p ≤ 16 ∧ p.ad.num % 2 ^ zq459 p = 0 ∧ p.ad.num + 2 ^ zq459 p ≤ 2 ^ wid p.ad.v6 := by
 obtain ⟨b1,b2⟩ := zq274 cp
 have h1 : zq459 p ≤ 4 := by unfold zq459; omega
 have h2 : 2 ^ zq459 p ≤ 2 ^ 4 := Nat.pow_le_pow_right (by omega) h1
 have h3 : p.ad.num % 2 ^ zq459 p = 0 := (zq302 _ _).1 ((zq300 hp.1.wf p.bits).1 (zq275 cp))
 have h4 := zq1199 p.ad ⟨hp.1.wf,zq273 cp⟩
 refine ⟨h1,h2,h3,?_⟩
 have hk : zq459 p ≤ wid p.ad.v6 := by unfold zq459; omega
 have h5 : 2 ^ wid p.ad.v6 = 2 ^ zq459 p * 2 ^ (wid p.ad.v6 - zq459 p) := by rw [← Nat.pow_add]; congr 1; omega
 obtain ⟨m,hm⟩ := Nat.dvd_of_mod_eq_zero h3
 rw [hm,h5] at h4 ⊢
 have := Nat.lt_of_mul_lt_mul_left h4
 calc 2 ^ zq459 p * m + 2 ^ zq459 p = 2 ^ zq459 p * (m + 1) := by rw [Nat.mul_add,Nat.mul_one]
  _ ≤ _ := Nat.mul_le_mul_left _ this
theorem zq1629 (v : Bool) : 2 ^ wid v ≤ 340282366920938463463374607431768211456 := by cases v <;> decide
theorem zq880 {v : Bool} {n : Nat} (h : n < 2 ^ wid v) : (ofNum v n).In := by
 have := zq1629 v
 unfold ofNum
 exact ⟨⟨by simp only; omega,by simp only; omega⟩,by simp only; omega,by simp only; omega⟩
theorem zq879 {v : Bool} {n : Nat} (h : n < 2 ^ wid v) : chkA (ofNum v n) = 0 := by
 unfold chkA ofNum
 cases v
 ·rw [show wid false = 32 from rfl] at h
  rw [if_neg]
  simp only
  omega
 ·simp
theorem zq949 (x k : Nat) (hx : x < 18446744073709551616) (hk : k ≤ 64) (hm : x % 2 ^ k = 0) : aop .or .u64 (x : Int) ((2 ^ k - 1 : Nat) : Int) = ((x + (2 ^ k - 1) : Nat) : Int) := by
 have hp := Nat.two_pow_pos k
 have hle : 2 ^ k ≤ 2 ^ 64 := Nat.pow_le_pow_right (by omega) hk
 obtain ⟨m,rfl⟩ := Nat.dvd_of_mod_eq_zero hm
 have hlt : 2 ^ k * m + 2 ^ k ≤ 18446744073709551616 := by
  have h5 : (18446744073709551616 : Nat) = 2 ^ k * 2 ^ (64 - k) := by rw [← Nat.pow_add]; rw [show k + (64 - k) = 64 by omega]
  rw [h5] at hx ⊢
  have := Nat.lt_of_mul_lt_mul_left hx
  calc 2 ^ k * m + 2 ^ k = 2 ^ k * (m + 1) := by rw [Nat.mul_add,Nat.mul_one]
   _ ≤ _ := Nat.mul_le_mul_left _ this
 have e1 : ∀ n : Nat,n < 18446744073709551616 → (BitVec.ofInt 64 (n : Int)).toNat = n := fun n hn => by
  rw [BitVec.toNat_ofInt]
  have : ((n : Int) % ((2 ^ 64 : Nat) : Int)) = (n : Int) := Int.emod_eq_of_lt (by omega) (by omega)
  rw [this]; rfl
 show IntKind.u64.wrap (((BitVec.ofInt 64 ((2 ^ k * m : Nat) : Int) ||| BitVec.ofInt 64 ((2 ^ k - 1 : Nat) : Int)).toNat : Nat) : Int) = _
 rw [BitVec.toNat_or,e1 _ (by omega),e1 _ (by omega),← Nat.two_pow_add_eq_or_of_lt (by omega),wrap_u64 (by omega) (by omega)]
theorem zq1061 {p : Pf} (hp : p.In) (cp : chkP p = 0) (hn : ((wid p.ad.v6 : Nat) : Int) - p.bits ≤ 4) : zq1063 p = some (addrI p (2 ^ zq459 p - 1),()) := by
 obtain ⟨b1,b2⟩ := zq274 cp
 obtain ⟨n1,n2,n3,n4⟩ := zq832 hp cp hn
 have hpp := Nat.two_pow_pos (zq459 p)
 obtain ⟨⟨h1,h2⟩,h3,h4⟩ := hp.1
 unfold zq1063
 rw [zq1104 p.ad p.bits b1 b2,zq220,zq812]
 show some _ = some _
 have k1 : wid p.ad.v6 - p.bits.toNat - 64 = 0 := by unfold zq459 at n1; omega
 have k2 : min (wid p.ad.v6 - p.bits.toNat) 64 = zq459 p := by unfold zq459 at n1 ⊢; omega
 rw [k1,k2]
 obtain ⟨hi,hhi⟩ := Int.eq_ofNat_of_zero_le h1
 obtain ⟨lo,hlo⟩ := Int.eq_ofNat_of_zero_le h3
 have hnum : p.ad.num = hi * 18446744073709551616 + lo := by unfold Ad.num; rw [hhi,hlo]; rfl
 have hlo2 : lo % 2 ^ zq459 p = 0 := by
  rw [hnum] at n3
  have h5 : (18446744073709551616 : Nat) = 2 ^ zq459 p * 2 ^ (64 - zq459 p) := by rw [← Nat.pow_add]; rw [show zq459 p + (64 - zq459 p) = 64 by omega]
  rw [h5,Nat.mul_left_comm] at n3
  rwa [Nat.mul_add_mod] at n3
 have o1 : aop .or .u64 p.ad.hi ((2 ^ 0 - 1 : Nat) : Int) = p.ad.hi := by
  rw [hhi,zq949 hi 0 (by omega) (by omega) (Nat.mod_one _)]
  simp
 have o2 : aop .or .u64 p.ad.lo ((2 ^ zq459 p - 1 : Nat) : Int) = ((lo + (2 ^ zq459 p - 1) : Nat) : Int) := by
  rw [hlo,zq949 lo (zq459 p) (by omega) (by omega) hlo2]
 simp only [o1,o2]
 have hlt : lo + 2 ^ zq459 p ≤ 18446744073709551616 := by
  have h5 : (18446744073709551616 : Nat) = 2 ^ zq459 p * 2 ^ (64 - zq459 p) := by rw [← Nat.pow_add]; rw [show zq459 p + (64 - zq459 p) = 64 by omega]
  obtain ⟨m,rfl⟩ := Nat.dvd_of_mod_eq_zero hlo2
  have hx : 2 ^ zq459 p * m < 2 ^ zq459 p * 2 ^ (64 - zq459 p) := by omega
  have := Nat.lt_of_mul_lt_mul_left hx
  rw [h5]
  calc 2 ^ zq459 p * m + 2 ^ zq459 p = 2 ^ zq459 p * (m + 1) := by rw [Nat.mul_add,Nat.mul_one]
   _ ≤ _ := Nat.mul_le_mul_left _ this
 unfold addrI ofNum
 rw [hnum,hhi]
 have q1 : (hi * 18446744073709551616 + lo + (2 ^ zq459 p - 1)) / 18446744073709551616 = hi := by omega
 have q2 : (hi * 18446744073709551616 + lo + (2 ^ zq459 p - 1)) % 18446744073709551616 = lo + (2 ^ zq459 p - 1) := by omega
 rw [q1,q2]
theorem zq88 {v : Bool} {n : Nat} (h : n + 1 < 2 ^ wid v) : zq90 (ofNum v n) = some (ofNum v (n + 1),true,()) := by
 unfold zq90
 simp only [zq231,zq370]
 have hadd : ∀ m : Nat,aop .add .u64 (m : Int) 1 = (((m + 1) % 18446744073709551616 : Nat) : Int) := fun m => by
  simp only [aop,zq1638]
  omega
 have hw := zq1629 v
 cases v
 ·rw [show wid false = 32 from rfl] at h
  have q1 : (n + 1) / 18446744073709551616 = 0 := by omega
  have q2 : n / 18446744073709551616 = 0 := by omega
  have q3 : (n % 18446744073709551616 + 1) % 18446744073709551616 = n + 1 := by omega
  have q4 : (n + 1) % 18446744073709551616 = n + 1 := by omega
  simp only [ofNum,hadd,zq233,zq220,q1,q2,q3,q4,zq231]
  rw [decide_eq_true (show (((n + 1 : Nat) : Int)) < 4294967296 by omega)]
 ·rw [show wid true = 128 from rfl] at h
  simp only [ofNum,hadd,zq235,zq220]
  by_cases hc : n % 18446744073709551616 + 1 = 18446744073709551616
  ·have q1 : (n + 1) / 18446744073709551616 = n / 18446744073709551616 + 1 := by omega
   have q2 : (n + 1) % 18446744073709551616 = 0 := by omega
   have q3 : (n / 18446744073709551616 + 1) % 18446744073709551616 = n / 18446744073709551616 + 1 := by omega
   rw [hc,Nat.mod_self,decide_eq_true (show ((0 : Nat) : Int) = 0 from rfl),zq235,q1,q2,q3]
   rw [decide_eq_false (show ¬ (((n / 18446744073709551616 + 1 : Nat) : Int)) = 0 by omega)]
   rfl
  ·have q1 : (n + 1) / 18446744073709551616 = n / 18446744073709551616 := by omega
   have q2 : (n + 1) % 18446744073709551616 = n % 18446744073709551616 + 1 := by omega
   have q3 : (n % 18446744073709551616 + 1) % 18446744073709551616 = n % 18446744073709551616 + 1 := by omega
   rw [q3,decide_eq_false (show ¬ (((n % 18446744073709551616 + 1 : Nat) : Int)) = 0 by omega),zq233,q1,q2]
theorem zq881 {v : Bool} {n m : Nat} (h : n ≠ m) : ofNum v n ≠ ofNum v m := fun e => h (by have := congrArg Ad.num e; rwa [zq866,zq866] at this)
theorem zq161 (v : Bool) (base c : Nat) (h : base + c ≤ 2 ^ wid v) : ∀ (fuel d : Nat),d < fuel → d < c → allA (ofNum v (base + (c - 1))) fuel (ofNum v (base + (c - 1 - d))) = some ((List.range' (c - 1 - d) (d + 1)).map fun i => ofNum v (base + i))
 | 0,d,h,_ => by omega
 | fuel + 1,d,h1,h2 => by
  rw [allA]
  cases d with
  | zero =>
   rw [decide_eq_true (show ofNum v (base + (c - 1 - 0)) = ofNum v (base + (c - 1)) from rfl),zq235]
   rfl
  | succ d =>
   rw [decide_eq_false (zq881 (by omega)),zq233,zq88 (by omega),zq220,zq235,show base + (c - 1 - (d + 1)) + 1 = base + (c - 1 - d) by omega,zq161 v base c h fuel d (by omega) (by omega)]
   have hr : List.range' (c - 1 - (d + 1)) (d + 1 + 1) = (c - 1 - (d + 1)) :: List.range' (c - 1 - d) (d + 1) := by
    rw [List.range'_succ]
    congr 2
    omega
   rw [Option.map_some,hr,List.map_cons]
def zq1513 (kp : List Ad) (b : List Ls) (a : Ad) : Bool := kp.any (fun x => decide (a = x)) || b.any (fun x => decide (x.ad = a))
def ixOut (kp : List Ad) : Option Nat → (((Int × Unit) × Unit) × (List Ad × Unit)) ⊕ ((Unit) × (List Ad × Unit))
 | some k => Sum.inl ((((k : Int),()),()),(kp,()))
 | none => Sum.inr ((),(kp,()))
theorem zq1280 {kp : List Ad} (hlen : kp.length ≤ 1048576) (a : Ad) : zq1279 kp a = some (kp.any (fun x => decide (a = x)),()) := by
 unfold zq1279 zq1290
 have := zq792 (step := zq1283) (fun i => (((),(),(lenL kp,()),((i : Int),()),()),(kp,(a,()),()))) kp.length (fun i => some (ixOut kp ((zq413 (fun x => decide (a = x)) (kp.drop i)).map (· + i)))) (fun rec i hi hr => ?_) (fun rec => ?_) FUEL 0 (Nat.zero_le _) (zq463 (by omega))
 ·rw [List.drop_zero,show (fun x => x + 0) = (id : Nat → Nat) from rfl,Option.map_id] at this
  rw [show ((0 : Nat) : Int) = 0 from rfl] at this
  rw [this,zq220,← zq414]
  simp only [id]
  cases zq413 (fun x => decide (a = x)) kp with
  | none => rfl
  | some k =>
   simp only [ixOut,sumC,zq220]
   rw [decide_eq_true (show (k : Int) ≥ 0 by omega)]
   rfl
 ·obtain ⟨e,he⟩ : ∃ e,kp[i]? = some e := ⟨_,zc0 hi⟩
  simp only [zq1283]
  rw [decide_eq_true (show (i : Int) < lenL kp by unfold lenL; omega),zq235,zq1187 (zq525 (by omega) (by unfold lenL; omega)),zq471 he,zq220,zq415 he,zq390]
  by_cases hc : a = e
  ·simp only [hc,decide_true,zq235,if_true]
   rfl
  ·simp only [hc,decide_false,zq233]
   rw [show ((i : Int) + 1) = ((i + 1 : Nat) : Int) by omega,zq1187 (zq519 (by omega) (by omega)),hr]
   rfl
 ·simp only [zq1283]
  rw [decide_eq_false (show ¬ (kp.length : Int) < lenL kp by unfold lenL; omega),zq233,zc18 (zc49 _)]
  rfl
abbrev DT := (Bool × Int × Int × Int × Unit) × List Ad × List Ls × (Ad × Unit) × Unit
def tkOut (d : DT) : Option Nat → (((Int × Unit) × Unit) × DT) ⊕ ((Unit) × DT)
 | some k => Sum.inl ((((k : Int),()),()),d)
 | none => Sum.inr ((),d)
theorem zq1514 (p : Pf) {kp : List Ad} (hk : kp.length ≤ 1048576) {b : List Ls} (hb : b.length ≤ 1048576) (a : Ad) : zq42 p kp b a = some (zq1513 kp b a,()) := by
 unfold zq42 zq1513
 rw [zq1280 hk,zq220]
 have := zq792 (step := zq36) (fun i => (((),(),(lenL b,()),((i : Int),()),()),((p.ad.v6,p.ad.hi,p.ad.lo,p.bits,()),kp,b,(a,()),()))) b.length (fun i => some (tkOut ((p.ad.v6,p.ad.hi,p.ad.lo,p.bits,()),kp,b,(a,()),()) ((zq413 (fun x => decide (x.ad = a)) (b.drop i)).map (· + i)))) (fun rec i hi hr => ?_) (fun rec => ?_) FUEL 0 (Nat.zero_le _) (zq463 (by omega))
 ·rw [List.drop_zero,show (fun x => x + 0) = (id : Nat → Nat) from rfl,Option.map_id] at this
  rw [show ((0 : Nat) : Int) = 0 from rfl] at this
  rw [this,zq220,← zq414 b]
  simp only [id]
  cases kp.any (fun x => decide (a = x))
  ·rw [zq233]
   cases zq413 (fun x => decide (x.ad = a)) b with
   | none => rfl
   | some k =>
    simp only [tkOut,sumC,zq220]
    rw [decide_eq_true (show (k : Int) ≥ 0 by omega)]
    rfl
  ·rfl
 ·obtain ⟨e,he⟩ : ∃ e,b[i]? = some e := ⟨_,zc0 hi⟩
  simp only [zq36]
  rw [decide_eq_true (show (i : Int) < lenL b by unfold lenL; omega),zq235,zq1187 (zq525 (by omega) (by unfold lenL; omega)),zq471 he,zq220,zq415 he,zq28,zq220,zq390]
  by_cases hc : e.ad = a
  ·simp only [hc,decide_true,zq235,if_true]
   rfl
  ·simp only [hc,decide_false,zq233]
   rw [show ((i : Int) + 1) = ((i + 1 : Nat) : Int) by omega,zq1187 (zq519 (by omega) (by omega)),hr]
   rfl
 ·simp only [zq36]
  rw [decide_eq_false (show ¬ (b.length : Int) < lenL b by unfold lenL; omega),zq233,zc18 (zc49 _)]
  rfl
def zq454 : Option Ad → Ad × Bool × Unit
 | some a => (a,true,())
 | none => (⟨false,0,0⟩,false,())
def zq460 (p : Pf) (kp : List Ad) (b : List Ls) : Option Ad := ((List.range (2 ^ zq459 p)).map (addrI p)).find? fun a => !zq1513 kp b a
theorem zq420 (p : Pf) {kp : List Ad} (hk : kp.length ≤ 1048576) {b : List Ls} (hb : b.length ≤ 1048576) : ∀ xs : List Ad,zq419 p kp b xs = some (zq454 (xs.find? fun a => !zq1513 kp b a))
 | [] => rfl
 | a :: r => by
  rw [zq419,zq1514 p hk hb,zq220,zq420 p hk hb r,zq220,List.find?_cons]
  cases zq1513 kp b a <;> rfl
theorem zq422 {p : Pf} (hp : p.In) (cp : chkP p = 0) (hn : ((wid p.ad.v6 : Nat) : Int) - p.bits ≤ 4) {kp : List Ad} (hk : kp.length ≤ 1048576) {b : List Ls} (hb : b.length ≤ 1048576) :
  zq23 p kp b = some (zq454 (zq460 p kp b)) := by
 obtain ⟨n1,n2,n3,n4⟩ := zq832 hp cp hn
 have hpp := Nat.two_pow_pos (zq459 p)
 unfold zq23 zq460
 rw [zq1061 hp cp hn,zq220]
 have := zq161 p.ad.v6 p.ad.num (2 ^ zq459 p) n4 64 (2 ^ zq459 p - 1) (by omega) (by omega)
 rw [show 2 ^ zq459 p - 1 - (2 ^ zq459 p - 1) = 0 by omega,Nat.add_zero,zq882 _ hp.1.wf,show 2 ^ zq459 p - 1 + 1 = 2 ^ zq459 p by omega,← List.range_eq_range'] at this
 show (allA (ofNum p.ad.v6 (p.ad.num + (2 ^ zq459 p - 1))) 64 p.ad).bind _ = _
 rw [this,zq220,zq420 p hk hb]
 rfl
end Go.Ma
