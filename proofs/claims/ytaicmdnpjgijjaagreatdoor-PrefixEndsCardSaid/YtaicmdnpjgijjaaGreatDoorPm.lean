/-
  The plain forms of the program's functions, as the machine runs them: those that hang on the contracts made by hand. Written by a program of mine.
-/
import Derived.Test.YtaicmdnpjgijjaaGreatDoorQc
namespace Go.Ma
open Go
/-- internal/stringslite.Cut -/
noncomputable def internal_stringslite_Cut_t (a0 : ByteArray) (a1 : ByteArray) : Option (ByteArray × ByteArray × Bool × Unit) :=
  (internal_stringslite_Index_t a0 a1).bind fun y1 =>
  br (decide (y1.1 ≥ 0))
    (req ((decide (0 ≤ y1.1)) && (decide (y1.1 ≤ lenS a0))) <|
    req (i64ok (y1.1 + (lenS a1))) <|
    req (((decide (0 ≤ y1.1 + (lenS a1))) && (decide (y1.1 + (lenS a1) ≤ lenS a0))) && (decide (lenS a0 ≤ lenS a0))) <|
    some (subS a0 0 y1.1, subS a0 (y1.1 + (lenS a1)) (lenS a0), true, ()))
    (some (a0, (ByteArray.empty), false, ()))

/-- strings.Cut -/
noncomputable def strings_Cut_t (a0 : ByteArray) (a1 : ByteArray) : Option (ByteArray × ByteArray × Bool × Unit) :=
  (internal_stringslite_Cut_t a0 a1).bind fun y1 =>
  some (y1.1, y1.2.1, y1.2.2.1, ())

/-- strings.Index -/
noncomputable def strings_Index_t (a0 : ByteArray) (a1 : ByteArray) : Option (Int × Unit) :=
  (internal_stringslite_Index_t a0 a1).bind fun y1 =>
  some (y1.1, ())

/-- strings.Contains -/
noncomputable def strings_Contains_t (a0 : ByteArray) (a1 : ByteArray) : Option (Bool × Unit) :=
  (strings_Index_t a0 a1).bind fun y1 =>
  some (decide (y1.1 ≥ 0), ())

/-- yardarm/addr.Parse -/
noncomputable def addr_Parse_t (a0 : ByteArray) : Option (Ad × Int × Unit) :=
  (addr_told_t a0).bind fun y1 =>
  br (!y1.2.1)
    (some ((⟨false, 0, 0⟩ : Ad), 1, ()))
    (some (y1.1, 0, ()))

/-- yardarm/prefix.Parse -/
noncomputable def prefix_Parse_t (a0 : ByteArray) : Option (Pf × Int × Unit) :=
  (strings_Cut_t a0 (⟨#[47]⟩ : ByteArray)).bind fun y1 =>
  (addr_Parse_t y1.1).bind fun y2 =>
  (prefix_Digits_t y1.2.1).bind fun y3 =>
  (br (!y1.2.2.1)
      (some true)
      (some (!decide (y2.2.1 = 0)))).bind fun c4 =>
  (br c4
      (some true)
      (some (!y3.2.1))).bind fun c5 =>
  br c5
    (some ((⟨(⟨false, 0, 0⟩ : Ad), 0⟩ : Pf), 1, ()))
    ((prefix_Check_t (⟨y2.1, y3.1⟩ : Pf)).bind fun y6 =>
    br (!decide (y6.1 = 0))
      (some ((⟨(⟨false, 0, 0⟩ : Ad), 0⟩ : Pf), y6.1, ()))
      (some ((⟨y2.1, y3.1⟩ : Pf), 0, ())))

noncomputable def addr_groups_L3 (rec : (((Int × Unit) × (Unit) × (Unit) × (Int × Unit) × Unit) × ((Ad × Unit) × List ByteArray × Unit)) → Option (((Unit) × Unit) × (List ByteArray × Unit))) (x : (((Int × Unit) × (Unit) × (Unit) × (Int × Unit) × Unit) × ((Ad × Unit) × List ByteArray × Unit))) : Option (((Unit) × Unit) × (List ByteArray × Unit)) :=
  let v0 := x.1.1.1
  let v1 := x.1.2.2.2.1.1
  let v2 := x.2.1.1
  let v3 := x.2.2.1
  br (decide (v1 < v0))
    ((addr_group_t v2 v1).bind fun y1 =>
    (strconv_FormatUint_t y1.1 16).bind fun y2 =>
    req (room (lenL v3) (lenL ([y2.1] : List ByteArray))) <|
    req (i64ok (v1 + 1)) <|
    rec (((v0, ()), (()), (()), (v1 + 1, ()), ()), ((v2, ()), v3 ++ ([y2.1] : List ByteArray), ())))
    (some (((()), ()), (v3, ())))

/-- yardarm/addr.groups -/
noncomputable def addr_groups_t (a0 : Ad) (a1 : Int) (a2 : Int) : Option (ByteArray × Unit) :=
  (loopN addr_groups_L3 FUEL (((a2, ()), (()), (()), (a1, ()), ()), ((a0, ()), ([] : List ByteArray), ()))).bind fun y1 =>
  (strings_Join_t y1.2.1 (⟨#[58]⟩ : ByteArray)).bind fun y2 =>
  some (y2.1, ())

noncomputable def addr_Text_L4 (rec : (((Unit) × (Unit) × (Int × Unit) × Unit) × ((Ad × Unit) × List ByteArray × Unit)) → Option (((Unit) × Unit) × (List ByteArray × Unit))) (x : (((Unit) × (Unit) × (Int × Unit) × Unit) × ((Ad × Unit) × List ByteArray × Unit))) : Option (((Unit) × Unit) × (List ByteArray × Unit)) :=
  let v0 := x.1.2.2.1.1
  let v1 := x.2.1.1
  let v2 := x.2.2.1
  br (decide (v0 ≥ 0))
    (req (decide (0 ≤ v0)) <|
    (strconv_FormatUint_t (aop .and .u64 (aop .shr .u64 v1.lo v0) 255) 10).bind fun y1 =>
    req (room (lenL v2) (lenL ([y1.1] : List ByteArray))) <|
    req (i64ok (v0 - 8)) <|
    rec (((()), (()), (v0 - 8, ()), ()), ((v1, ()), v2 ++ ([y1.1] : List ByteArray), ())))
    (some (((()), ()), (v2, ())))

/-- yardarm/addr.Text -/
noncomputable def addr_Text_t (a0 : Ad) : Option (ByteArray × Unit) :=
  br (!a0.v6)
    ((loopN addr_Text_L4 FUEL (((()), (()), (24, ()), ()), ((a0, ()), ([] : List ByteArray), ()))).bind fun y1 =>
    (strings_Join_t y1.2.1 (⟨#[46]⟩ : ByteArray)).bind fun y2 =>
    some (y2.1, ()))
    ((addr_longest_t a0).bind fun y1 =>
    br (decide (y1.2.1 = 0))
      ((addr_groups_t a0 0 8).bind fun y2 =>
      some (y2.1, ()))
      ((addr_groups_t a0 0 y1.1).bind fun y2 =>
      req (roomS (catS y2.1 (⟨#[58, 58]⟩ : ByteArray))) <|
      req (i64ok (y1.1 + y1.2.1)) <|
      (addr_groups_t a0 (y1.1 + y1.2.1) 8).bind fun y3 =>
      req (roomS (catS (catS y2.1 (⟨#[58, 58]⟩ : ByteArray)) y3.1)) <|
      some (catS (catS y2.1 (⟨#[58, 58]⟩ : ByteArray)) y3.1, ())))

/-- yardarm/prefix.Text -/
noncomputable def prefix_Text_t (a0 : Pf) : Option (ByteArray × Unit) :=
  (addr_Text_t a0.ad).bind fun y1 =>
  req (roomS (catS y1.1 (⟨#[47]⟩ : ByteArray))) <|
  (strconv_Itoa_t a0.bits).bind fun y2 =>
  req (roomS (catS (catS y1.1 (⟨#[47]⟩ : ByteArray)) y2.1)) <|
  some (catS (catS y1.1 (⟨#[47]⟩ : ByteArray)) y2.1, ())

/-- yardarm/prefix.Print -/
noncomputable def prefix_Print_t (a0 : Pf) : Option (ByteArray × Int × Unit) :=
  (prefix_Check_t a0).bind fun y1 =>
  br (!decide (y1.1 = 0))
    (some ((ByteArray.empty), y1.1, ()))
    ((prefix_Text_t a0).bind fun y2 =>
    some (y2.1, 0, ()))

/-- yardarm/yardarmlaw.prefixBegun -/
noncomputable def law_prefixBegun_t : Option (Bool × Unit) :=
  (prefix_Parse_t (⟨#[49, 48, 46, 48, 46, 48, 46, 48, 47, 51, 48]⟩ : ByteArray)).bind fun y1 =>
  (law_net_t 167772162 31).bind fun y2 =>
  (prefix_Has_t y1.1 y2.1).bind fun y3 =>
  (prefix_Ends_t y1.1).bind fun y4 =>
  (prefix_Halves_t y1.1).bind fun y5 =>
  (prefix_Whole_t y5.1 y5.2.1).bind fun y6 =>
  (prefix_Print_t y5.2.1).bind fun y7 =>
  (br (decide (y1.2.1 = 0))
      (some (decide (y3.2.1 = 0)))
      (some false)).bind fun c8 =>
  (br c8
      (some (decide (y4.2.2.1 = 0)))
      (some false)).bind fun c9 =>
  (br c9
      (some (decide (y5.2.2.1 = 0)))
      (some false)).bind fun c10 =>
  (br c10
      (some (decide (y6.2.1 = 0)))
      (some false)).bind fun c11 =>
  (br c11
      (some (decide (y7.2.1 = 0)))
      (some false)).bind fun c12 =>
  (br c12
      ((law_net_t 1 31).bind fun y13 =>
      (prefix_Check_t y13.1).bind fun y14 =>
      some (decide (y14.1 = 4)))
      (some false)).bind fun c13 =>
  (br c13
      (some y3.1)
      (some false)).bind fun c14 =>
  (br c14
      ((law_v4_t 167772160).bind fun y15 =>
      some (eqAd y4.1 y15.1))
      (some false)).bind fun c15 =>
  (br c15
      ((law_v4_t 167772163).bind fun y16 =>
      some (eqAd y4.2.1 y16.1))
      (some false)).bind fun c16 =>
  (br c16
      (some (eqPf y6.1 y1.1))
      (some false)).bind fun c17 =>
  (br c17
      (some (strcmp .eql y7.1 (⟨#[49, 48, 46, 48, 46, 48, 46, 50, 47, 51, 49]⟩ : ByteArray)))
      (some false)).bind fun c18 =>
  some (c18, ())

/-- yardarm/addr.Print -/
noncomputable def addr_Print_t (a0 : Ad) : Option (ByteArray × Int × Unit) :=
  (addr_Check_t a0).bind fun y1 =>
  br (!decide (y1.1 = 0))
    (some ((ByteArray.empty), y1.1, ()))
    ((addr_Text_t a0).bind fun y2 =>
    some (y2.1, 0, ()))

/-- yardarm/yardarmlaw.addrBegun -/
noncomputable def law_addrBegun_t : Option (Bool × Unit) :=
  (addr_Parse_t (⟨#[50, 48, 48, 49, 58, 68, 66, 56, 58, 48, 58, 48, 58, 49, 58, 58, 49, 46, 50, 46, 51, 46, 52]⟩ : ByteArray)).bind fun y1 =>
  (addr_Print_t y1.1).bind fun y2 =>
  (addr_Parse_t (⟨#[49, 48, 46, 48, 46, 48, 46, 50, 53, 53]⟩ : ByteArray)).bind fun y3 =>
  (addr_Next_t y3.1).bind fun y4 =>
  (addr_Less_t y3.1 y1.1).bind fun y5 =>
  (addr_Print_t (⟨true, 0, 0⟩ : Ad)).bind fun y6 =>
  (addr_Parse_t (⟨#[49, 58, 58, 50, 58, 58, 51]⟩ : ByteArray)).bind fun y7 =>
  (br (decide (y1.2.1 = 0))
      (some (decide (y2.2.1 = 0)))
      (some false)).bind fun c8 =>
  (br c8
      (some (decide (y3.2.1 = 0)))
      (some false)).bind fun c9 =>
  (br c9
      (some (decide (y4.2.2.1 = 0)))
      (some false)).bind fun c10 =>
  (br c10
      (some (decide (y5.2.1 = 0)))
      (some false)).bind fun c11 =>
  (br c11
      (some (decide (y6.2.1 = 0)))
      (some false)).bind fun c12 =>
  (br c12
      (some (decide (y7.2.1 = 1)))
      (some false)).bind fun c13 =>
  (br c13
      (some (strcmp .eql y2.1 (⟨#[50, 48, 48, 49, 58, 100, 98, 56, 58, 58, 49, 58, 48, 58, 49, 48, 50, 58, 51, 48, 52]⟩ : ByteArray)))
      (some false)).bind fun c14 =>
  (br c14
      ((law_v4_t 167772415).bind fun y15 =>
      some (eqAd y3.1 y15.1))
      (some false)).bind fun c15 =>
  (br c15
      (some y4.2.1)
      (some false)).bind fun c16 =>
  (br c16
      ((law_v4_t 167772416).bind fun y17 =>
      some (eqAd y4.1 y17.1))
      (some false)).bind fun c17 =>
  (br c17
      (some y5.1)
      (some false)).bind fun c18 =>
  (br c18
      (some (strcmp .eql y6.1 (⟨#[58, 58]⟩ : ByteArray)))
      (some false)).bind fun c19 =>
  some (c19, ())

/-- yardarm/yardarmlaw.PrefixApart -/
noncomputable def law_PrefixApart_t (a0 : Pf) (a1 : Pf) (a2 : Pf) : Option (Bool × Unit) :=
  (prefix_Has_t a0 a1).bind fun y1 =>
  (prefix_Has_t a1 a0).bind fun y2 =>
  law_prefixBegun_t.bind fun y3 =>
  (br (!y3.1)
      (some true)
      (law_addrBegun_t.bind fun y4 =>
      some (!y4.1))).bind fun c4 =>
  br c4
    (some (false, ()))
    ((br (!decide (y1.2.1 = 0))
        (some true)
        (some (!decide (y2.2.1 = 0)))).bind fun c5 =>
    br c5
      ((br (!y1.1)
          (some (!y2.1))
          (some false)).bind fun c6 =>
      some (c6, ()))
      ((br y1.1
          (some (!(beqB y2.1 (eqPf a0 a1))))
          (some false)).bind fun c6 =>
      br c6
        (some (false, ()))
        ((br (!y1.1)
            (some (!y2.1))
            (some false)).bind fun c7 =>
        br c7
          ((prefix_Ends_t a0).bind fun y8 =>
          (prefix_Ends_t a1).bind fun y9 =>
          (addr_Less_t y8.2.1 y9.1).bind fun y10 =>
          (addr_Less_t y9.2.1 y8.1).bind fun y11 =>
          (br (!decide (y8.2.2.1 = 0))
              (some true)
              (some (!decide (y9.2.2.1 = 0)))).bind fun c12 =>
          (br c12
              (some true)
              (some (!decide (y10.2.1 = 0)))).bind fun c13 =>
          (br c13
              (some true)
              (some (!decide (y11.2.1 = 0)))).bind fun c14 =>
          (br c14
              (some true)
              (br (!y10.1)
                (some (!y11.1))
                (some false))).bind fun c15 =>
          br c15
            (some (false, ()))
            ((prefix_Has_t a1 a2).bind fun y16 =>
            (prefix_Has_t a0 a2).bind fun y17 =>
            (br (!decide (y16.2.1 = 0))
                (some true)
                (br (decide (y17.2.1 = 0))
                  (br (!y1.1)
                    (some true)
                    (br (!y16.1)
                      (some true)
                      (some y17.1)))
                  (some false))).bind fun c18 =>
            some (c18, ())))
          ((prefix_Has_t a1 a2).bind fun y8 =>
          (prefix_Has_t a0 a2).bind fun y9 =>
          (br (!decide (y8.2.1 = 0))
              (some true)
              (br (decide (y9.2.1 = 0))
                (br (!y1.1)
                  (some true)
                  (br (!y8.1)
                    (some true)
                    (some y9.1)))
                (some false))).bind fun c10 =>
          some (c10, ())))))

/-- yardarm/yardarmlaw.PrefixHalves -/
noncomputable def law_PrefixHalves_t (a0 : Pf) : Option (Bool × Unit) :=
  (prefix_Halves_t a0).bind fun y1 =>
  law_prefixBegun_t.bind fun y2 =>
  (br (!y2.1)
      (some true)
      (law_addrBegun_t.bind fun y3 =>
      some (!y3.1))).bind fun c3 =>
  br c3
    (some (false, ()))
    ((prefix_Print_t a0).bind fun y4 =>
    br (decide (y4.2.1 = 0))
      ((prefix_Parse_t y4.1).bind fun y5 =>
      (br (!decide (y5.2.1 = 0))
          (some true)
          (some (!(eqPf y5.1 a0)))).bind fun c6 =>
      br c6
        (some (false, ()))
        (br (!decide (y1.2.2.1 = 0))
          ((br (!decide (y1.2.2.1 = 5))
              (some true)
              (br a0.ad.v6
                (some (decide (a0.bits = 128)))
                (some false))).bind fun c7 =>
          (br c7
              (some true)
              (some (decide (a0.bits = 32)))).bind fun c8 =>
          some (c8, ()))
          ((prefix_Whole_t y1.1 y1.2.1).bind fun y7 =>
          (prefix_Ends_t y1.1).bind fun y8 =>
          (prefix_Ends_t y1.2.1).bind fun y9 =>
          (prefix_Ends_t a0).bind fun y10 =>
          (addr_Next_t y8.2.1).bind fun y11 =>
          (br (decide (y7.2.1 = 0))
              (some (eqPf y7.1 a0))
              (some false)).bind fun c12 =>
          (br c12
              (some (decide (y8.2.2.1 = 0)))
              (some false)).bind fun c13 =>
          (br c13
              (some (decide (y9.2.2.1 = 0)))
              (some false)).bind fun c14 =>
          (br c14
              (some (decide (y10.2.2.1 = 0)))
              (some false)).bind fun c15 =>
          (br c15
              (some (decide (y11.2.2.1 = 0)))
              (some false)).bind fun c16 =>
          (br c16
              (some y11.2.1)
              (some false)).bind fun c17 =>
          (br c17
              (some (eqAd y11.1 y9.1))
              (some false)).bind fun c18 =>
          (br c18
              (some (eqAd y8.1 y10.1))
              (some false)).bind fun c19 =>
          (br c19
              (some (eqAd y9.2.1 y10.2.1))
              (some false)).bind fun c20 =>
          some (c20, ()))))
      (br (!decide (y1.2.2.1 = 0))
        ((br (!decide (y1.2.2.1 = 5))
            (some true)
            (br a0.ad.v6
              (some (decide (a0.bits = 128)))
              (some false))).bind fun c5 =>
        (br c5
            (some true)
            (some (decide (a0.bits = 32)))).bind fun c6 =>
        some (c6, ()))
        ((prefix_Whole_t y1.1 y1.2.1).bind fun y5 =>
        (prefix_Ends_t y1.1).bind fun y6 =>
        (prefix_Ends_t y1.2.1).bind fun y7 =>
        (prefix_Ends_t a0).bind fun y8 =>
        (addr_Next_t y6.2.1).bind fun y9 =>
        (br (decide (y5.2.1 = 0))
            (some (eqPf y5.1 a0))
            (some false)).bind fun c10 =>
        (br c10
            (some (decide (y6.2.2.1 = 0)))
            (some false)).bind fun c11 =>
        (br c11
            (some (decide (y7.2.2.1 = 0)))
            (some false)).bind fun c12 =>
        (br c12
            (some (decide (y8.2.2.1 = 0)))
            (some false)).bind fun c13 =>
        (br c13
            (some (decide (y9.2.2.1 = 0)))
            (some false)).bind fun c14 =>
        (br c14
            (some y9.2.1)
            (some false)).bind fun c15 =>
        (br c15
            (some (eqAd y9.1 y7.1))
            (some false)).bind fun c16 =>
        (br c16
            (some (eqAd y6.1 y8.1))
            (some false)).bind fun c17 =>
        (br c17
            (some (eqAd y7.2.1 y8.2.1))
            (some false)).bind fun c18 =>
        some (c18, ()))))

/-- yardarm/yardarmlaw.PrefixEnds -/
noncomputable def law_PrefixEnds_t (a0 : Pf) (a1 : Ad) : Option (Bool × Unit) :=
  law_prefixBegun_t.bind fun y1 =>
  (br (!y1.1)
      (some true)
      (law_addrBegun_t.bind fun y2 =>
      some (!y2.1))).bind fun c2 =>
  br c2
    (some (false, ()))
    ((prefix_Ends_t a0).bind fun y3 =>
    (br (!decide (y3.2.2.1 = 0))
        (some true)
        ((addr_Check_t a1).bind fun y4 =>
        some (!decide (y4.1 = 0)))).bind fun c4 =>
    br c4
      ((br (decide (y3.2.2.1 = 0))
          (some true)
          (some (eqAd y3.1 (⟨false, 0, 0⟩ : Ad)))).bind fun c5 =>
      some (c5, ()))
      ((R_Host_t a1).bind fun y5 =>
      (prefix_Has_t a0 y5.1).bind fun y6 =>
      (addr_Less_t a1 y3.1).bind fun y7 =>
      (addr_Less_t y3.2.1 a1).bind fun y8 =>
      (br (decide (y6.2.1 = 0))
          (some (decide (y7.2.1 = 0)))
          (some false)).bind fun c9 =>
      (br c9
          (some (decide (y8.2.1 = 0)))
          (some false)).bind fun c10 =>
      (br c10
          (br (!y7.1)
            (some (beqB y6.1 (!y8.1)))
            (some (beqB y6.1 false)))
          (some false)).bind fun c11 =>
      some (c11, ())))

end Go.Ma
