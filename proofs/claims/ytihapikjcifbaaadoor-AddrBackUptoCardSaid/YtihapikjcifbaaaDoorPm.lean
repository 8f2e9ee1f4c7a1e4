/-
  The plain forms of the program's functions, as the machine runs them: those that hang on the contracts made by hand. Written by a program of mine.
-/
import Derived.Test.YtihapikjcifbaaaDoorQc
namespace Go.Ma
open Go
noncomputable def addr_groups_L3 (rec : (((Int × Unit) × (Unit) × (Unit) × (Int × Unit) × Unit) × ((Ad × Unit) × List ByteArray × Unit)) → Option (((Unit) × Unit) × (List ByteArray × Unit))) (x : (((Int × Unit) × (Unit) × (Unit) × (Int × Unit) × Unit) × ((Ad × Unit) × List ByteArray × Unit))) : Option (((Unit) × Unit) × (List ByteArray × Unit)) :=
  let v0 := x.1.1.1
  let v1 := x.1.2.2.2.1.1
  let v2 := x.2.1.1
  let v3 := x.2.2.1
  br (decide (v1 < v0))
    ((addr_group_t v2 v1).bind fun y1 =>
    (strconv_FormatUint_t y1.1 16).bind fun y2 =>
    req (room (lenL v3) (lenL ([y2.1] : List ByteArray))) <|
    req (i64ok (v1 + 1)) <|
    rec (((v0, ()), (()), (()), (v1 + 1, ()), ()), ((v2, ()), v3 ++ ([y2.1] : List ByteArray), ())))
    (some (((()), ()), (v3, ())))

/-- yardarm/addr.groups -/
noncomputable def addr_groups_t (a0 : Ad) (a1 : Int) (a2 : Int) : Option (ByteArray × Unit) :=
  (loopN addr_groups_L3 FUEL (((a2, ()), (()), (()), (a1, ()), ()), ((a0, ()), ([] : List ByteArray), ()))).bind fun y1 =>
  (strings_Join_t y1.2.1 (⟨#[58]⟩ : ByteArray)).bind fun y2 =>
  some (y2.1, ())

noncomputable def addr_Text_L4 (rec : (((Unit) × (Unit) × (Int × Unit) × Unit) × ((Ad × Unit) × List ByteArray × Unit)) → Option (((Unit) × Unit) × (List ByteArray × Unit))) (x : (((Unit) × (Unit) × (Int × Unit) × Unit) × ((Ad × Unit) × List ByteArray × Unit))) : Option (((Unit) × Unit) × (List ByteArray × Unit)) :=
  let v0 := x.1.2.2.1.1
  let v1 := x.2.1.1
  let v2 := x.2.2.1
  br (decide (v0 ≥ 0))
    (req (decide (0 ≤ v0)) <|
    (strconv_FormatUint_t (aop .and .u64 (aop .shr .u64 v1.lo v0) 255) 10).bind fun y1 =>
    req (room (lenL v2) (lenL ([y1.1] : List ByteArray))) <|
    req (i64ok (v0 - 8)) <|
    rec (((()), (()), (v0 - 8, ()), ()), ((v1, ()), v2 ++ ([y1.1] : List ByteArray), ())))
    (some (((()), ()), (v2, ())))

/-- yardarm/addr.Text -/
noncomputable def addr_Text_t (a0 : Ad) : Option (ByteArray × Unit) :=
  br (!a0.v6)
    ((loopN addr_Text_L4 FUEL (((()), (()), (24, ()), ()), ((a0, ()), ([] : List ByteArray), ()))).bind fun y1 =>
    (strings_Join_t y1.2.1 (⟨#[46]⟩ : ByteArray)).bind fun y2 =>
    some (y2.1, ()))
    ((addr_longest_t a0).bind fun y1 =>
    br (decide (y1.2.1 = 0))
      ((addr_groups_t a0 0 8).bind fun y2 =>
      some (y2.1, ()))
      ((addr_groups_t a0 0 y1.1).bind fun y2 =>
      req (roomS (catS y2.1 (⟨#[58, 58]⟩ : ByteArray))) <|
      req (i64ok (y1.1 + y1.2.1)) <|
      (addr_groups_t a0 (y1.1 + y1.2.1) 8).bind fun y3 =>
      req (roomS (catS (catS y2.1 (⟨#[58, 58]⟩ : ByteArray)) y3.1)) <|
      some (catS (catS y2.1 (⟨#[58, 58]⟩ : ByteArray)) y3.1, ())))

/-- yardarm/addr.Print -/
noncomputable def addr_Print_t (a0 : Ad) : Option (ByteArray × Int × Unit) :=
  (addr_Check_t a0).bind fun y1 =>
  br (!decide (y1.1 = 0))
    (some ((ByteArray.empty), y1.1, ()))
    ((addr_Text_t a0).bind fun y2 =>
    some (y2.1, 0, ()))

/-- yardarm/addr.Parse -/
noncomputable def addr_Parse_t (a0 : ByteArray) : Option (Ad × Int × Unit) :=
  (addr_told_t a0).bind fun y1 =>
  br (!y1.2.1)
    (some ((⟨false, 0, 0⟩ : Ad), 1, ()))
    (some (y1.1, 0, ()))

/-- yardarm/yardarmlaw.addrBegun -/
noncomputable def law_addrBegun_t : Option (Bool × Unit) :=
  (addr_Parse_t (⟨#[50, 48, 48, 49, 58, 68, 66, 56, 58, 48, 58, 48, 58, 49, 58, 58, 49, 46, 50, 46, 51, 46, 52]⟩ : ByteArray)).bind fun y1 =>
  (addr_Print_t y1.1).bind fun y2 =>
  (addr_Parse_t (⟨#[49, 48, 46, 48, 46, 48, 46, 50, 53, 53]⟩ : ByteArray)).bind fun y3 =>
  (addr_Next_t y3.1).bind fun y4 =>
  (addr_Less_t y3.1 y1.1).bind fun y5 =>
  (addr_Print_t (⟨true, 0, 0⟩ : Ad)).bind fun y6 =>
  (addr_Parse_t (⟨#[49, 58, 58, 50, 58, 58, 51]⟩ : ByteArray)).bind fun y7 =>
  (br (decide (y1.2.1 = 0))
      (some (decide (y2.2.1 = 0)))
      (some false)).bind fun c8 =>
  (br c8
      (some (decide (y3.2.1 = 0)))
      (some false)).bind fun c9 =>
  (br c9
      (some (decide (y4.2.2.1 = 0)))
      (some false)).bind fun c10 =>
  (br c10
      (some (decide (y5.2.1 = 0)))
      (some false)).bind fun c11 =>
  (br c11
      (some (decide (y6.2.1 = 0)))
      (some false)).bind fun c12 =>
  (br c12
      (some (decide (y7.2.1 = 1)))
      (some false)).bind fun c13 =>
  (br c13
      (some (strcmp .eql y2.1 (⟨#[50, 48, 48, 49, 58, 100, 98, 56, 58, 58, 49, 58, 48, 58, 49, 48, 50, 58, 51, 48, 52]⟩ : ByteArray)))
      (some false)).bind fun c14 =>
  (br c14
      ((law_v4_t 167772415).bind fun y15 =>
      some (eqAd y3.1 y15.1))
      (some false)).bind fun c15 =>
  (br c15
      (some y4.2.1)
      (some false)).bind fun c16 =>
  (br c16
      ((law_v4_t 167772416).bind fun y17 =>
      some (eqAd y4.1 y17.1))
      (some false)).bind fun c17 =>
  (br c17
      (some y5.1)
      (some false)).bind fun c18 =>
  (br c18
      (some (strcmp .eql y6.1 (⟨#[58, 58]⟩ : ByteArray)))
      (some false)).bind fun c19 =>
  some (c19, ())

/-- yardarm/yardarmlaw.AddrBack -/
noncomputable def law_AddrBack_t (a0 : Ad) (a1 : ByteArray) : Option (Bool × Unit) :=
  law_addrBegun_t.bind fun y1 =>
  br (!y1.1)
    (some (false, ()))
    ((addr_Print_t a0).bind fun y2 =>
    br (decide (y2.2.1 = 0))
      ((addr_Parse_t y2.1).bind fun y3 =>
      (br (!decide (y3.2.1 = 0))
          (some true)
          (some (!(eqAd y3.1 a0)))).bind fun c4 =>
      br c4
        (some (false, ()))
        ((addr_Parse_t a1).bind fun y5 =>
        br (!decide (y5.2.1 = 0))
          (some (eqAd y5.1 (⟨false, 0, 0⟩ : Ad), ()))
          ((addr_Print_t y5.1).bind fun y6 =>
          (addr_Parse_t y6.1).bind fun y7 =>
          (br (decide (y6.2.1 = 0))
              (some (decide (y7.2.1 = 0)))
              (some false)).bind fun c8 =>
          (br c8
              (some (eqAd y7.1 y5.1))
              (some false)).bind fun c9 =>
          (br c9
              ((addr_Check_t y5.1).bind fun y10 =>
              some (decide (y10.1 = 0)))
              (some false)).bind fun c10 =>
          (br c10
              (some (decide (lenS y6.1 ≤ 39)))
              (some false)).bind fun c11 =>
          some (c11, ()))))
      ((addr_Parse_t a1).bind fun y3 =>
      br (!decide (y3.2.1 = 0))
        (some (eqAd y3.1 (⟨false, 0, 0⟩ : Ad), ()))
        ((addr_Print_t y3.1).bind fun y4 =>
        (addr_Parse_t y4.1).bind fun y5 =>
        (br (decide (y4.2.1 = 0))
            (some (decide (y5.2.1 = 0)))
            (some false)).bind fun c6 =>
        (br c6
            (some (eqAd y5.1 y3.1))
            (some false)).bind fun c7 =>
        (br c7
            ((addr_Check_t y3.1).bind fun y8 =>
            some (decide (y8.1 = 0)))
            (some false)).bind fun c8 =>
        (br c8
            (some (decide (lenS y4.1 ≤ 39)))
            (some false)).bind fun c9 =>
        some (c9, ()))))

/-- yardarm/yardarmlaw.AddrOrder -/
noncomputable def law_AddrOrder_t (a0 : Ad) (a1 : Ad) (a2 : Ad) : Option (Bool × Unit) :=
  law_addrBegun_t.bind fun y1 =>
  br (!y1.1)
    (some (false, ()))
    ((addr_Less_t a0 a1).bind fun y2 =>
    (addr_Less_t a1 a0).bind fun y3 =>
    (br (!decide (y2.2.1 = 0))
        (some true)
        (some (!decide (y3.2.1 = 0)))).bind fun c4 =>
    br c4
      ((br (!y2.1)
          (some (!y3.1))
          (some false)).bind fun c5 =>
      some (c5, ()))
      ((br (beqB y2.1 y3.1)
          (br y2.1
            (some true)
            (some (!(eqAd a0 a1))))
          (some false)).bind fun c5 =>
      br c5
        (some (false, ()))
        ((addr_Less_t a1 a2).bind fun y6 =>
        (addr_Less_t a0 a2).bind fun y7 =>
        (br (decide (y6.2.1 = 0))
            (some (decide (y7.2.1 = 0)))
            (some false)).bind fun c8 =>
        (br c8
            (some y2.1)
            (some false)).bind fun c9 =>
        (br c9
            (some y6.1)
            (some false)).bind fun c10 =>
        (br c10
            (some (!y7.1))
            (some false)).bind fun c11 =>
        br c11
          (some (false, ()))
          ((addr_Next_t a0).bind fun y12 =>
          (br (!decide (y12.2.2.1 = 0))
              (some true)
              (some (!y12.2.1))).bind fun c13 =>
          br c13
            (some (decide (y12.2.2.1 = 0), ()))
            ((addr_Less_t a0 y12.1).bind fun y14 =>
            (addr_Less_t a1 y12.1).bind fun y15 =>
            (br (decide (y14.2.1 = 0))
                (some (decide (y15.2.1 = 0)))
                (some false)).bind fun c16 =>
            (br c16
                (some y14.1)
                (some false)).bind fun c17 =>
            (br c17
                (br (!y2.1)
                  (some true)
                  (some (!y15.1)))
                (some false)).bind fun c18 =>
            (br c18
                (some (beqB y12.1.v6 a0.v6))
                (some false)).bind fun c19 =>
            some (c19, ()))))))

end Go.Ma
