/-
  The plain forms of the program's functions, as the machine runs them: those that hang on the contracts made by hand. Written by a program of mine.
-/
import Derived.Test.YtaicmdnpjgijjaaGreatDoorQa
namespace Go.Ma
open Go
/-- internal/stringslite.Cut -/
noncomputable def internal_stringslite_Cut_t (a0 : ByteArray) (a1 : ByteArray) : Option (ByteArray × ByteArray × Bool × Unit) :=
  (internal_stringslite_Index_t a0 a1).bind fun y1 =>
  br (decide (y1.1 ≥ 0))
    (req ((decide (0 ≤ y1.1)) && (decide (y1.1 ≤ lenS a0))) <|
    req (i64ok (y1.1 + (lenS a1))) <|
    req (((decide (0 ≤ y1.1 + (lenS a1))) && (decide (y1.1 + (lenS a1) ≤ lenS a0))) && (decide (lenS a0 ≤ lenS a0))) <|
    some (subS a0 0 y1.1, subS a0 (y1.1 + (lenS a1)) (lenS a0), true, ()))
    (some (a0, (ByteArray.empty), false, ()))

/-- strings.Cut -/
noncomputable def strings_Cut_t (a0 : ByteArray) (a1 : ByteArray) : Option (ByteArray × ByteArray × Bool × Unit) :=
  (internal_stringslite_Cut_t a0 a1).bind fun y1 =>
  some (y1.1, y1.2.1, y1.2.2.1, ())

/-- strings.Index -/
noncomputable def strings_Index_t (a0 : ByteArray) (a1 : ByteArray) : Option (Int × Unit) :=
  (internal_stringslite_Index_t a0 a1).bind fun y1 =>
  some (y1.1, ())

/-- strings.Contains -/
noncomputable def strings_Contains_t (a0 : ByteArray) (a1 : ByteArray) : Option (Bool × Unit) :=
  (strings_Index_t a0 a1).bind fun y1 =>
  some (decide (y1.1 ≥ 0), ())

noncomputable def addr_four_L6 (rec : (((Int × Unit) × (Unit) × (Int × Unit) × (Int × Unit) × Unit) × (List ByteArray × Unit)) → Option (((Int × Unit) × Unit) × (Unit))) (x : (((Int × Unit) × (Unit) × (Int × Unit) × (Int × Unit) × Unit) × (List ByteArray × Unit))) : Option (((Int × Unit) × Unit) × (Unit)) :=
  let v0 := x.1.1.1
  let v1 := x.1.2.2.1.1
  let v2 := x.1.2.2.2.1.1
  let v3 := x.2.1
  br (decide (v2 < v1))
    (req (inRange v2 (lenL v3)) <|
    (geti v3 v2).bind fun p1 =>
    (addr_part_t p1 10 3 255).bind fun y2 =>
    req (i64ok (v2 + 1)) <|
    rec (((aop .or .u64 (aop .shl .u64 v0 8) y2.1, ()), (()), (v1, ()), (v2 + 1, ()), ()), (v3, ())))
    (some (((v0, ()), ()), (())))

/-- yardarm/addr.four -/
noncomputable def addr_four_t (a0 : ByteArray) : Option (Int × Unit) :=
  (strings_Split_t a0 (⟨#[46]⟩ : ByteArray)).bind fun y1 =>
  br (!decide (lenL y1.1 = 4))
    (none)
    ((loopN addr_four_L6 FUEL (((0, ()), (()), (lenL y1.1, ()), (0, ()), ()), (y1.1, ()))).bind fun y2 =>
    some (y2.1.1.1, ()))

noncomputable def addr_some_L6 (rec : (((Bool × Unit) × (Unit) × (Unit) × (Unit) × (Int × Unit) × (Int × Unit) × Unit) × (List Int × List ByteArray × Unit)) → Option (((Unit) × Unit) × (List Int × Unit))) (x : (((Bool × Unit) × (Unit) × (Unit) × (Unit) × (Int × Unit) × (Int × Unit) × Unit) × (List Int × List ByteArray × Unit))) : Option (((Unit) × Unit) × (List Int × Unit)) :=
  let v0 := x.1.1.1
  let v1 := x.1.2.2.2.2.1.1
  let v2 := x.1.2.2.2.2.2.1.1
  let v3 := x.2.1
  let v4 := x.2.2.1
  br (decide (v2 < v1))
    (req (inRange v2 (lenL v4)) <|
    (geti v4 v2).bind fun p1 =>
    (br v0
        (req (i64ok ((lenL v4) - 1)) <|
        some (decide (v2 = (lenL v4) - 1)))
        (some false)).bind fun c2 =>
    (br c2
        ((strings_Contains_t p1 (⟨#[46]⟩ : ByteArray)).bind fun y3 =>
        some y3.1)
        (some false)).bind fun c3 =>
    br c3
      ((addr_four_t p1).bind fun y4 =>
      req (room (lenL v3) (lenL ([aop .shr .u64 y4.1 16, aop .and .u64 y4.1 65535] : List Int))) <|
      req (i64ok (v2 + 1)) <|
      rec (((v0, ()), (()), (()), (()), (v1, ()), (v2 + 1, ()), ()), (v3 ++ ([aop .shr .u64 y4.1 16, aop .and .u64 y4.1 65535] : List Int), v4, ())))
      ((addr_part_t p1 16 4 65535).bind fun y4 =>
      req (room (lenL v3) (lenL ([y4.1] : List Int))) <|
      req (i64ok (v2 + 1)) <|
      rec (((v0, ()), (()), (()), (()), (v1, ()), (v2 + 1, ()), ()), (v3 ++ ([y4.1] : List Int), v4, ()))))
    (some (((()), ()), (v3, ())))

/-- yardarm/addr.some -/
noncomputable def addr_some_t (a0 : ByteArray) (a1 : Bool) : Option ((List Int) × Unit) :=
  br (strcmp .eql a0 (ByteArray.empty))
    (some (([] : List Int), ()))
    ((strings_Split_t a0 (⟨#[58]⟩ : ByteArray)).bind fun y1 =>
    (loopN addr_some_L6 FUEL (((a1, ()), (()), (()), (()), (lenL y1.1, ()), (0, ()), ()), (([] : List Int), y1.1, ()))).bind fun y2 =>
    some (y2.2.1, ()))

/-- internal/strconv.FormatUint -/
noncomputable def internal_strconv_FormatUint_t (a0 : Int) (a1 : Int) : Option (ByteArray × Unit) :=
  br (decide (a1 = 10))
    (br (decide (a0 < 100))
      ((internal_strconv_small_t (convI .i64 a0)).bind fun y1 =>
      some (y1.1, ()))
      (none))
    (none)

/-- strconv.FormatUint -/
noncomputable def strconv_FormatUint_t (a0 : Int) (a1 : Int) : Option (ByteArray × Unit) :=
  (internal_strconv_FormatUint_t a0 a1).bind fun y1 =>
  some (y1.1, ())

noncomputable def addr_groups_L3 (rec : (((Int × Unit) × (Unit) × (Unit) × (Int × Unit) × Unit) × ((Ad × Unit) × List ByteArray × Unit)) → Option (((Unit) × Unit) × (List ByteArray × Unit))) (x : (((Int × Unit) × (Unit) × (Unit) × (Int × Unit) × Unit) × ((Ad × Unit) × List ByteArray × Unit))) : Option (((Unit) × Unit) × (List ByteArray × Unit)) :=
  let v0 := x.1.1.1
  let v1 := x.1.2.2.2.1.1
  let v2 := x.2.1.1
  let v3 := x.2.2.1
  br (decide (v1 < v0))
    ((addr_group_t v2 v1).bind fun y1 =>
    (strconv_FormatUint_t y1.1 16).bind fun y2 =>
    req (room (lenL v3) (lenL ([y2.1] : List ByteArray))) <|
    req (i64ok (v1 + 1)) <|
    rec (((v0, ()), (()), (()), (v1 + 1, ()), ()), ((v2, ()), v3 ++ ([y2.1] : List ByteArray), ())))
    (some (((()), ()), (v3, ())))

/-- yardarm/addr.groups -/
noncomputable def addr_groups_t (a0 : Ad) (a1 : Int) (a2 : Int) : Option (ByteArray × Unit) :=
  (loopN addr_groups_L3 FUEL (((a2, ()), (()), (()), (a1, ()), ()), ((a0, ()), ([] : List ByteArray), ()))).bind fun y1 =>
  (strings_Join_t y1.2.1 (⟨#[58]⟩ : ByteArray)).bind fun y2 =>
  some (y2.1, ())

noncomputable def addr_Text_L4 (rec : (((Unit) × (Unit) × (Int × Unit) × Unit) × ((Ad × Unit) × List ByteArray × Unit)) → Option (((Unit) × Unit) × (List ByteArray × Unit))) (x : (((Unit) × (Unit) × (Int × Unit) × Unit) × ((Ad × Unit) × List ByteArray × Unit))) : Option (((Unit) × Unit) × (List ByteArray × Unit)) :=
  let v0 := x.1.2.2.1.1
  let v1 := x.2.1.1
  let v2 := x.2.2.1
  br (decide (v0 ≥ 0))
    (req (decide (0 ≤ v0)) <|
    (strconv_FormatUint_t (aop .and .u64 (aop .shr .u64 v1.lo v0) 255) 10).bind fun y1 =>
    req (room (lenL v2) (lenL ([y1.1] : List ByteArray))) <|
    req (i64ok (v0 - 8)) <|
    rec (((()), (()), (v0 - 8, ()), ()), ((v1, ()), v2 ++ ([y1.1] : List ByteArray), ())))
    (some (((()), ()), (v2, ())))

/-- yardarm/addr.Text -/
noncomputable def addr_Text_t (a0 : Ad) : Option (ByteArray × Unit) :=
  br (!a0.v6)
    ((loopN addr_Text_L4 FUEL (((()), (()), (24, ()), ()), ((a0, ()), ([] : List ByteArray), ()))).bind fun y1 =>
    (strings_Join_t y1.2.1 (⟨#[46]⟩ : ByteArray)).bind fun y2 =>
    some (y2.1, ()))
    ((addr_longest_t a0).bind fun y1 =>
    br (decide (y1.2.1 = 0))
      ((addr_groups_t a0 0 8).bind fun y2 =>
      some (y2.1, ()))
      ((addr_groups_t a0 0 y1.1).bind fun y2 =>
      req (roomS (catS y2.1 (⟨#[58, 58]⟩ : ByteArray))) <|
      req (i64ok (y1.1 + y1.2.1)) <|
      (addr_groups_t a0 (y1.1 + y1.2.1) 8).bind fun y3 =>
      req (roomS (catS (catS y2.1 (⟨#[58, 58]⟩ : ByteArray)) y3.1)) <|
      some (catS (catS y2.1 (⟨#[58, 58]⟩ : ByteArray)) y3.1, ())))

/-- yardarm/prefix.Text -/
noncomputable def prefix_Text_t (a0 : Pf) : Option (ByteArray × Unit) :=
  (addr_Text_t a0.ad).bind fun y1 =>
  req (roomS (catS y1.1 (⟨#[47]⟩ : ByteArray))) <|
  (strconv_Itoa_t a0.bits).bind fun y2 =>
  req (roomS (catS (catS y1.1 (⟨#[47]⟩ : ByteArray)) y2.1)) <|
  some (catS (catS y1.1 (⟨#[47]⟩ : ByteArray)) y2.1, ())

/-- yardarm/prefix.Print -/
noncomputable def prefix_Print_t (a0 : Pf) : Option (ByteArray × Int × Unit) :=
  (prefix_Check_t a0).bind fun y1 =>
  br (!decide (y1.1 = 0))
    (some ((ByteArray.empty), y1.1, ()))
    ((prefix_Text_t a0).bind fun y2 =>
    some (y2.1, 0, ()))

/-- yardarm/addr.Print -/
noncomputable def addr_Print_t (a0 : Ad) : Option (ByteArray × Int × Unit) :=
  (addr_Check_t a0).bind fun y1 =>
  br (!decide (y1.1 = 0))
    (some ((ByteArray.empty), y1.1, ()))
    ((addr_Text_t a0).bind fun y2 =>
    some (y2.1, 0, ()))

end Go.Ma
