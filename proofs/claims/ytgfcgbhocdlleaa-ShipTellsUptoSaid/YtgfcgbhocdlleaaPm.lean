/-
  The plain forms of the program's functions, as the machine runs them: those that hang on the contracts made by hand. Written by a program of mine.
-/
import Derived.Test.YtgfcgbhocdlleaaPl
namespace Go.Ma
open Go
/-- yardarm/ship.Take -/
noncomputable def ship_Take_t (a0 : List En) (a1 : List En) : Option ((List En) × Int × Unit) :=
  (log_Check_t a0).bind fun y1 =>
  br (!decide (y1.1 = 0))
    (some (([] : List En), y1.1, ()))
    (req (i64ok (0 + (lenL a0))) <|
    br (decide (0 + (lenL a0) < 0))
      (none)
      (req (i64ok ((0 + (lenL a0)) + (lenL a1))) <|
      br (decide ((0 + (lenL a0)) + (lenL a1) < 0))
        (none)
        (req ((decide (0 ≤ (0 + (lenL a0)) + (lenL a1))) && (Nat.ble ((0 + (lenL a0)) + (lenL a1)).toNat 1099511627776)) <|
        req (room (lenL ([] : List En)) (lenL a0)) <|
        req (room (lenL (([] : List En) ++ a0)) (lenL a1)) <|
        (log_Check_t ((([] : List En) ++ a0) ++ a1)).bind fun y2 =>
        br (!decide (y2.1 = 0))
          (some (([] : List En), y2.1, ()))
          (some ((([] : List En) ++ a0) ++ a1, 0, ())))))

/-- yardarm/yardarmlaw.shipBegun -/
noncomputable def law_shipBegun_t : Option (Bool × Unit) :=
  law_entries_t.bind fun y1 =>
  both
    (req (true && (decide (1 ≤ lenL y1.1))) <|
    law_entries_t.bind fun y2 =>
    (ship_Next_t (subL y1.1 0 1) y2.1 1).bind fun y3 =>
    law_entries_t.bind fun y4 =>
    req (true && (decide (1 ≤ lenL y4.1))) <|
    (ship_Take_t (subL y4.1 0 1) y3.1).bind fun y5 =>
    (ship_Take_t y5.1 y3.1).bind fun y6 =>
    (br (decide (y3.2.1 = 0))
        (some (decide (y5.2.1 = 0)))
        (some false)).bind fun c7 =>
    (br c7
        (some (decide (y6.2.1 = 4)))
        (some false)).bind fun c8 =>
    (br c8
        (some (decide (lenL y3.1 = 1)))
        (some false)).bind fun c9 =>
    br c9
      (law_entries_t.bind fun y10 =>
      req (true && (decide (2 ≤ lenL y10.1))) <|
      (R_SameLog_t y5.1 (subL y10.1 0 2)).bind fun y11 =>
      some (y11.1, ()))
      (some (false, ())))
    (law_entries_t.bind fun y2 =>
    req (true && (decide (1 ≤ lenL y1.1))) <|
    (ship_Next_t (subL y1.1 0 1) y2.1 1).bind fun y3 =>
    law_entries_t.bind fun y4 =>
    req (true && (decide (1 ≤ lenL y4.1))) <|
    (ship_Take_t (subL y4.1 0 1) y3.1).bind fun y5 =>
    (ship_Take_t y5.1 y3.1).bind fun y6 =>
    (br (decide (y3.2.1 = 0))
        (some (decide (y5.2.1 = 0)))
        (some false)).bind fun c7 =>
    (br c7
        (some (decide (y6.2.1 = 4)))
        (some false)).bind fun c8 =>
    (br c8
        (some (decide (lenL y3.1 = 1)))
        (some false)).bind fun c9 =>
    br c9
      (law_entries_t.bind fun y10 =>
      req (true && (decide (2 ≤ lenL y10.1))) <|
      (R_SameLog_t y5.1 (subL y10.1 0 2)).bind fun y11 =>
      some (y11.1, ()))
      (some (false, ())))

/-- yardarm/yardarmlaw.ShipTells -/
noncomputable def law_ShipTells_t (a0 : List En) (a1 : List En) (a2 : List En) (a3 : Int) : Option (Bool × Unit) :=
  (ship_Next_t a0 a1 a3).bind fun y1 =>
  (ship_Take_t a0 a2).bind fun y2 =>
  (R_CheckLog_t a0).bind fun y3 =>
  br (decide (y3.1 = 0))
    ((R_CheckLog_t a1).bind fun y4 =>
    (br (decide (y4.1 = 0))
        ((R_DoesBegin_t a0 a1).bind fun y5 =>
        some (!y5.1))
        (some false)).bind fun c5 =>
    br c5
      (req (room (lenL ([] : List En)) (lenL a0)) <|
      req (room (lenL (([] : List En) ++ a0)) (lenL a2)) <|
      br (decide (y3.1 = 0))
        ((R_CheckLog_t ((([] : List En) ++ a0) ++ a2)).bind fun y6 =>
        law_shipBegun_t.bind fun y7 =>
        (br y7.1
            ((law_logIs_t y1.1 y1.2.1 4 ([] : List En)).bind fun y8 =>
            some y8.1)
            (some false)).bind fun c8 =>
        (br c8
            ((law_logIs_t y2.1 y2.2.1 y6.1 ((([] : List En) ++ a0) ++ a2)).bind fun y9 =>
            some y9.1)
            (some false)).bind fun c9 =>
        some (c9, ()))
        (law_shipBegun_t.bind fun y6 =>
        (br y6.1
            ((law_logIs_t y1.1 y1.2.1 4 ([] : List En)).bind fun y7 =>
            some y7.1)
            (some false)).bind fun c7 =>
        (br c7
            ((law_logIs_t y2.1 y2.2.1 y3.1 ((([] : List En) ++ a0) ++ a2)).bind fun y8 =>
            some y8.1)
            (some false)).bind fun c8 =>
        some (c8, ())))
      ((br (decide (y4.1 = 0))
          (br (decide (a3 < 0))
            (some true)
            (some (decide (a3 > 30))))
          (some false)).bind fun c6 =>
      br c6
        (req (room (lenL ([] : List En)) (lenL a0)) <|
        req (room (lenL (([] : List En) ++ a0)) (lenL a2)) <|
        br (decide (y3.1 = 0))
          ((R_CheckLog_t ((([] : List En) ++ a0) ++ a2)).bind fun y7 =>
          law_shipBegun_t.bind fun y8 =>
          (br y8.1
              ((law_logIs_t y1.1 y1.2.1 3 ([] : List En)).bind fun y9 =>
              some y9.1)
              (some false)).bind fun c9 =>
          (br c9
              ((law_logIs_t y2.1 y2.2.1 y7.1 ((([] : List En) ++ a0) ++ a2)).bind fun y10 =>
              some y10.1)
              (some false)).bind fun c10 =>
          some (c10, ()))
          (law_shipBegun_t.bind fun y7 =>
          (br y7.1
              ((law_logIs_t y1.1 y1.2.1 3 ([] : List En)).bind fun y8 =>
              some y8.1)
              (some false)).bind fun c8 =>
          (br c8
              ((law_logIs_t y2.1 y2.2.1 y3.1 ((([] : List En) ++ a0) ++ a2)).bind fun y9 =>
              some y9.1)
              (some false)).bind fun c9 =>
          some (c9, ())))
        (br (decide (y4.1 = 0))
          ((R_BehindOf_t a0 a1 a3).bind fun y7 =>
          req (room (lenL ([] : List En)) (lenL a0)) <|
          req (room (lenL (([] : List En) ++ a0)) (lenL a2)) <|
          br (decide (y3.1 = 0))
            ((R_CheckLog_t ((([] : List En) ++ a0) ++ a2)).bind fun y8 =>
            law_shipBegun_t.bind fun y9 =>
            (br y9.1
                ((law_logIs_t y1.1 y1.2.1 y4.1 y7.1).bind fun y10 =>
                some y10.1)
                (some false)).bind fun c10 =>
            (br c10
                ((law_logIs_t y2.1 y2.2.1 y8.1 ((([] : List En) ++ a0) ++ a2)).bind fun y11 =>
                some y11.1)
                (some false)).bind fun c11 =>
            some (c11, ()))
            (law_shipBegun_t.bind fun y8 =>
            (br y8.1
                ((law_logIs_t y1.1 y1.2.1 y4.1 y7.1).bind fun y9 =>
                some y9.1)
                (some false)).bind fun c9 =>
            (br c9
                ((law_logIs_t y2.1 y2.2.1 y3.1 ((([] : List En) ++ a0) ++ a2)).bind fun y10 =>
                some y10.1)
                (some false)).bind fun c10 =>
            some (c10, ())))
          (req (room (lenL ([] : List En)) (lenL a0)) <|
          req (room (lenL (([] : List En) ++ a0)) (lenL a2)) <|
          br (decide (y3.1 = 0))
            ((R_CheckLog_t ((([] : List En) ++ a0) ++ a2)).bind fun y7 =>
            law_shipBegun_t.bind fun y8 =>
            (br y8.1
                ((law_logIs_t y1.1 y1.2.1 y4.1 ([] : List En)).bind fun y9 =>
                some y9.1)
                (some false)).bind fun c9 =>
            (br c9
                ((law_logIs_t y2.1 y2.2.1 y7.1 ((([] : List En) ++ a0) ++ a2)).bind fun y10 =>
                some y10.1)
                (some false)).bind fun c10 =>
            some (c10, ()))
            (law_shipBegun_t.bind fun y7 =>
            (br y7.1
                ((law_logIs_t y1.1 y1.2.1 y4.1 ([] : List En)).bind fun y8 =>
                some y8.1)
                (some false)).bind fun c8 =>
            (br c8
                ((law_logIs_t y2.1 y2.2.1 y3.1 ((([] : List En) ++ a0) ++ a2)).bind fun y9 =>
                some y9.1)
                (some false)).bind fun c9 =>
            some (c9, ()))))))
    ((br (decide (y3.1 = 0))
        ((R_DoesBegin_t a0 a1).bind fun y4 =>
        some (!y4.1))
        (some false)).bind fun c4 =>
    br c4
      (req (room (lenL ([] : List En)) (lenL a0)) <|
      req (room (lenL (([] : List En) ++ a0)) (lenL a2)) <|
      br (decide (y3.1 = 0))
        ((R_CheckLog_t ((([] : List En) ++ a0) ++ a2)).bind fun y5 =>
        law_shipBegun_t.bind fun y6 =>
        (br y6.1
            ((law_logIs_t y1.1 y1.2.1 4 ([] : List En)).bind fun y7 =>
            some y7.1)
            (some false)).bind fun c7 =>
        (br c7
            ((law_logIs_t y2.1 y2.2.1 y5.1 ((([] : List En) ++ a0) ++ a2)).bind fun y8 =>
            some y8.1)
            (some false)).bind fun c8 =>
        some (c8, ()))
        (law_shipBegun_t.bind fun y5 =>
        (br y5.1
            ((law_logIs_t y1.1 y1.2.1 4 ([] : List En)).bind fun y6 =>
            some y6.1)
            (some false)).bind fun c6 =>
        (br c6
            ((law_logIs_t y2.1 y2.2.1 y3.1 ((([] : List En) ++ a0) ++ a2)).bind fun y7 =>
            some y7.1)
            (some false)).bind fun c7 =>
        some (c7, ())))
      ((br (decide (y3.1 = 0))
          (br (decide (a3 < 0))
            (some true)
            (some (decide (a3 > 30))))
          (some false)).bind fun c5 =>
      br c5
        (req (room (lenL ([] : List En)) (lenL a0)) <|
        req (room (lenL (([] : List En) ++ a0)) (lenL a2)) <|
        br (decide (y3.1 = 0))
          ((R_CheckLog_t ((([] : List En) ++ a0) ++ a2)).bind fun y6 =>
          law_shipBegun_t.bind fun y7 =>
          (br y7.1
              ((law_logIs_t y1.1 y1.2.1 3 ([] : List En)).bind fun y8 =>
              some y8.1)
              (some false)).bind fun c8 =>
          (br c8
              ((law_logIs_t y2.1 y2.2.1 y6.1 ((([] : List En) ++ a0) ++ a2)).bind fun y9 =>
              some y9.1)
              (some false)).bind fun c9 =>
          some (c9, ()))
          (law_shipBegun_t.bind fun y6 =>
          (br y6.1
              ((law_logIs_t y1.1 y1.2.1 3 ([] : List En)).bind fun y7 =>
              some y7.1)
              (some false)).bind fun c7 =>
          (br c7
              ((law_logIs_t y2.1 y2.2.1 y3.1 ((([] : List En) ++ a0) ++ a2)).bind fun y8 =>
              some y8.1)
              (some false)).bind fun c8 =>
          some (c8, ())))
        (br (decide (y3.1 = 0))
          ((R_BehindOf_t a0 a1 a3).bind fun y6 =>
          req (room (lenL ([] : List En)) (lenL a0)) <|
          req (room (lenL (([] : List En) ++ a0)) (lenL a2)) <|
          br (decide (y3.1 = 0))
            ((R_CheckLog_t ((([] : List En) ++ a0) ++ a2)).bind fun y7 =>
            law_shipBegun_t.bind fun y8 =>
            (br y8.1
                ((law_logIs_t y1.1 y1.2.1 y3.1 y6.1).bind fun y9 =>
                some y9.1)
                (some false)).bind fun c9 =>
            (br c9
                ((law_logIs_t y2.1 y2.2.1 y7.1 ((([] : List En) ++ a0) ++ a2)).bind fun y10 =>
                some y10.1)
                (some false)).bind fun c10 =>
            some (c10, ()))
            (law_shipBegun_t.bind fun y7 =>
            (br y7.1
                ((law_logIs_t y1.1 y1.2.1 y3.1 y6.1).bind fun y8 =>
                some y8.1)
                (some false)).bind fun c8 =>
            (br c8
                ((law_logIs_t y2.1 y2.2.1 y3.1 ((([] : List En) ++ a0) ++ a2)).bind fun y9 =>
                some y9.1)
                (some false)).bind fun c9 =>
            some (c9, ())))
          (req (room (lenL ([] : List En)) (lenL a0)) <|
          req (room (lenL (([] : List En) ++ a0)) (lenL a2)) <|
          br (decide (y3.1 = 0))
            ((R_CheckLog_t ((([] : List En) ++ a0) ++ a2)).bind fun y6 =>
            law_shipBegun_t.bind fun y7 =>
            (br y7.1
                ((law_logIs_t y1.1 y1.2.1 y3.1 ([] : List En)).bind fun y8 =>
                some y8.1)
                (some false)).bind fun c8 =>
            (br c8
                ((law_logIs_t y2.1 y2.2.1 y6.1 ((([] : List En) ++ a0) ++ a2)).bind fun y9 =>
                some y9.1)
                (some false)).bind fun c9 =>
            some (c9, ()))
            (law_shipBegun_t.bind fun y6 =>
            (br y6.1
                ((law_logIs_t y1.1 y1.2.1 y3.1 ([] : List En)).bind fun y7 =>
                some y7.1)
                (some false)).bind fun c7 =>
            (br c7
                ((law_logIs_t y2.1 y2.2.1 y3.1 ((([] : List En) ++ a0) ++ a2)).bind fun y8 =>
                some y8.1)
                (some false)).bind fun c8 =>
            some (c8, ()))))))

end Go.Ma
