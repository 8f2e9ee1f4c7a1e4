/-
  The plain forms of the program's functions, as the machine runs them: those that hang on the contracts made by hand. Written by a program of mine.
-/
import Derived.Test.YtghbkkmelbobcaaHa
namespace Go.Ma
open Go
/-- yardarm/yardarmlaw.tableBegun -/
noncomputable def law_tableBegun_t : Option (Bool × Unit) :=
  law_routes_t.bind fun y1 =>
  (law_v4_t 167838211).bind fun y2 =>
  (table_Find_t y1.1 y2.1).bind fun y3 =>
  law_routes_t.bind fun y4 =>
  (table_Above_t y4.1 2).bind fun y5 =>
  law_routes_t.bind fun y6 =>
  (table_Below_t y6.1 0).bind fun y7 =>
  law_routes_t.bind fun y8 =>
  (table_Check_t y8.1).bind fun y9 =>
  (br (decide (y9.1 = 0))
      (some (decide (y3.2.1 = 0)))
      (some false)).bind fun c10 =>
  (br c10
      (some (decide (y5.2.1 = 0)))
      (some false)).bind fun c11 =>
  (br c11
      (some (decide (y7.2.1 = 0)))
      (some false)).bind fun c12 =>
  (br c12
      (some (decide (y3.1 = 2)))
      (some false)).bind fun c13 =>
  (br c13
      (some (decide (y5.1 = 1)))
      (some false)).bind fun c14 =>
  (br c14
      (some (decide (lenL y7.1 = 1)))
      (some false)).bind fun c15 =>
  (br c15
      (req (inRange 0 (lenL y7.1)) <|
      (geti y7.1 0).bind fun p16 =>
      some (decide (p16 = 1)))
      (some false)).bind fun c16 =>
  some (c16, ())

noncomputable def law_TableTells_L29 (rec : (((Unit) × (Int × Unit) × (Int × Unit) × (Int × Unit) × (Int × Unit) × (Unit) × (Int × Unit) × (Int × Unit) × (Int × Unit) × (Int × Unit) × (Int × Unit) × (Unit) × (Int × Unit) × Unit) × (List Pf × List Int × List Int × Unit)) → Option ((((Bool × Unit) × Unit) × (List Pf × Unit)) ⊕ (((Unit) × (Int × Unit) × (Int × Unit) × (Int × Unit) × (Int × Unit) × (Int × Unit) × (Int × Unit) × (Int × Unit) × (Int × Unit) × (Int × Unit) × Unit) × (List Pf × Unit)))) (x : (((Unit) × (Int × Unit) × (Int × Unit) × (Int × Unit) × (Int × Unit) × (Unit) × (Int × Unit) × (Int × Unit) × (Int × Unit) × (Int × Unit) × (Int × Unit) × (Unit) × (Int × Unit) × Unit) × (List Pf × List Int × List Int × Unit))) : Option ((((Bool × Unit) × Unit) × (List Pf × Unit)) ⊕ (((Unit) × (Int × Unit) × (Int × Unit) × (Int × Unit) × (Int × Unit) × (Int × Unit) × (Int × Unit) × (Int × Unit) × (Int × Unit) × (Int × Unit) × Unit) × (List Pf × Unit))) :=
  let v0 := x.1.2.1.1
  let v1 := x.1.2.2.1.1
  let v2 := x.1.2.2.2.1.1
  let v3 := x.1.2.2.2.2.1.1
  let v4 := x.1.2.2.2.2.2.2.1.1
  let v5 := x.1.2.2.2.2.2.2.2.1.1
  let v6 := x.1.2.2.2.2.2.2.2.2.1.1
  let v7 := x.1.2.2.2.2.2.2.2.2.2.1.1
  let v8 := x.1.2.2.2.2.2.2.2.2.2.2.1.1
  let v9 := x.1.2.2.2.2.2.2.2.2.2.2.2.2.1.1
  let v10 := x.2.1
  let v11 := x.2.2.1
  let v12 := x.2.2.2.1
  br (decide (v9 < lenL v11))
    (req (inRange v9 (lenL v11)) <|
    (geti v11 v9).bind fun p1 =>
    req (inRange v9 (lenL v12)) <|
    (geti v12 v9).bind fun p2 =>
    br (!decide (p1 = p2))
      (some (Sum.inl (((false, ()), ()), (v10, ()))))
      (req (i64ok (v9 + 1)) <|
      rec (((()), (v0, ()), (v1, ()), (v2, ()), (v3, ()), (()), (v4, ()), (v5, ()), (v6, ()), (v7, ()), (v8, ()), (()), (v9 + 1, ()), ()), (v10, v11, v12, ()))))
    (some (Sum.inr ((((()), (v0, ()), (v1, ()), (v2, ()), (v3, ()), (v4, ()), (v5, ()), (v6, ()), (v7, ()), (v8, ()), ()), (v10, ())))))

noncomputable def law_TableTells_L20 (rec : (((Unit) × (Int × Unit) × (Int × Unit) × (Int × Unit) × (Int × Unit) × (Int × Unit) × (Unit) × (Int × Unit) × (Int × Unit) × (Int × Unit) × (Int × Unit) × (Int × Unit) × (Int × Unit) × (Int × Unit) × (Unit) × (Int × Unit) × Unit) × (List Pf × List Int × List Int × Unit)) → Option (((Unit) × (Int × Unit) × (Int × Unit) × (Int × Unit) × (Int × Unit) × (Unit) × (Int × Unit) × (Int × Unit) × (Int × Unit) × (Int × Unit) × (Int × Unit) × (Int × Unit) × (Int × Unit) × (Unit) × Unit) × (List Pf × List Int × List Int × Unit))) (x : (((Unit) × (Int × Unit) × (Int × Unit) × (Int × Unit) × (Int × Unit) × (Int × Unit) × (Unit) × (Int × Unit) × (Int × Unit) × (Int × Unit) × (Int × Unit) × (Int × Unit) × (Int × Unit) × (Int × Unit) × (Unit) × (Int × Unit) × Unit) × (List Pf × List Int × List Int × Unit))) : Option (((Unit) × (Int × Unit) × (Int × Unit) × (Int × Unit) × (Int × Unit) × (Unit) × (Int × Unit) × (Int × Unit) × (Int × Unit) × (Int × Unit) × (Int × Unit) × (Int × Unit) × (Int × Unit) × (Unit) × Unit) × (List Pf × List Int × List Int × Unit)) :=
  let v0 := x.1.2.1.1
  let v1 := x.1.2.2.1.1
  let v2 := x.1.2.2.2.1.1
  let v3 := x.1.2.2.2.2.1.1
  let v4 := x.1.2.2.2.2.2.1.1
  let v5 := x.1.2.2.2.2.2.2.2.1.1
  let v6 := x.1.2.2.2.2.2.2.2.2.1.1
  let v7 := x.1.2.2.2.2.2.2.2.2.2.1.1
  let v8 := x.1.2.2.2.2.2.2.2.2.2.2.1.1
  let v9 := x.1.2.2.2.2.2.2.2.2.2.2.2.1.1
  let v10 := x.1.2.2.2.2.2.2.2.2.2.2.2.2.1.1
  let v11 := x.1.2.2.2.2.2.2.2.2.2.2.2.2.2.1.1
  let v12 := x.1.2.2.2.2.2.2.2.2.2.2.2.2.2.2.2.1.1
  let v13 := x.2.1
  let v14 := x.2.2.1
  let v15 := x.2.2.2.1
  br (decide (v12 < lenL v13))
    (req (inRange v12 (lenL v13)) <|
    (geti v13 v12).bind fun p1 =>
    (R_NearestOf_t v13 p1 v12).bind fun y2 =>
    br (decide (y2.1 = v0))
      (req (room (lenL v15) (lenL ([v12] : List Int))) <|
      req (i64ok (v12 + 1)) <|
      rec (((()), (v0, ()), (v1, ()), (v2, ()), (v3, ()), (v4, ()), (()), (v5, ()), (v6, ()), (v7, ()), (v8, ()), (v9, ()), (v10, ()), (v11, ()), (()), (v12 + 1, ()), ()), (v13, v14, v15 ++ ([v12] : List Int), ())))
      (req (i64ok (v12 + 1)) <|
      rec (((()), (v0, ()), (v1, ()), (v2, ()), (v3, ()), (v4, ()), (()), (v5, ()), (v6, ()), (v7, ()), (v8, ()), (v9, ()), (v10, ()), (v11, ()), (()), (v12 + 1, ()), ()), (v13, v14, v15, ()))))
    (some (((()), (v1, ()), (v2, ()), (v3, ()), (v4, ()), (()), (v5, ()), (v6, ()), (v7, ()), (v8, ()), (v9, ()), (v10, ()), (v11, ()), (()), ()), (v13, v14, v15, ())))

/-- yardarm/yardarmlaw.TableTells -/
noncomputable def law_TableTells_t (a0 : List Pf) (a1 : Ad) (a2 : Int) : Option (Bool × Unit) :=
  (table_Find_t a0 a1).bind fun y1 =>
  (table_Above_t a0 a2).bind fun y2 =>
  (table_Below_t a0 a2).bind fun y3 =>
  (R_CheckTable_t a0).bind fun y4 =>
  br (decide (y4.1 = 0))
    ((R_CheckAddr_t a1).bind fun y5 =>
    (br (decide (y4.1 = 0))
        (br (decide (a2 < 0))
          (some true)
          (some (decide (a2 ≥ lenL a0))))
        (some false)).bind fun c6 =>
    br c6
      (br (decide (y5.1 = 0))
        ((R_Host_t a1).bind fun y7 =>
        (R_NearestOf_t a0 y7.1 (-1)).bind fun y8 =>
        br (decide (y8.1 < 0))
          ((br (!decide (y3.2.1 = 3))
              (some true)
              (some (!decide (lenL y3.1 = lenL ([] : List Int))))).bind fun c9 =>
          br c9
            (some (false, ()))
            ((loopN law_TableTells_L29 FUEL (((()), (y1.1, ()), (y1.2.1, ()), (y2.1, ()), (y2.2.1, ()), (()), (y4.1, ()), (5, ()), (3, ()), (0, ()), (0, ()), (()), (0, ()), ()), (a0, y3.1, ([] : List Int), ()))).bind fun y10 =>
            sumC y10 (fun y11 =>
              some (y11.1.1.1, ())) (fun y12 =>
              law_tableBegun_t.bind fun y13 =>
              (br y13.1
                  ((table_Check_t y12.2.1).bind fun y14 =>
                  some (decide (y14.1 = y12.1.2.2.2.2.2.1.1)))
                  (some false)).bind fun c14 =>
              (br c14
                  (some (decide (y12.1.2.2.1.1 = y12.1.2.2.2.2.2.2.1.1)))
                  (some false)).bind fun c15 =>
              (br c15
                  (some (decide (y12.1.2.1.1 = y12.1.2.2.2.2.2.2.2.2.1.1)))
                  (some false)).bind fun c16 =>
              (br c16
                  (some (decide (y12.1.2.2.2.2.1.1 = y12.1.2.2.2.2.2.2.2.1.1)))
                  (some false)).bind fun c17 =>
              (br c17
                  (some (decide (y12.1.2.2.2.1.1 = y12.1.2.2.2.2.2.2.2.2.2.1.1)))
                  (some false)).bind fun c18 =>
              some (c18, ()))))
          ((br (!decide (y3.2.1 = 3))
              (some true)
              (some (!decide (lenL y3.1 = lenL ([] : List Int))))).bind fun c9 =>
          br c9
            (some (false, ()))
            ((loopN law_TableTells_L29 FUEL (((()), (y1.1, ()), (y1.2.1, ()), (y2.1, ()), (y2.2.1, ()), (()), (y4.1, ()), (y5.1, ()), (3, ()), (y8.1, ()), (0, ()), (()), (0, ()), ()), (a0, y3.1, ([] : List Int), ()))).bind fun y10 =>
            sumC y10 (fun y11 =>
              some (y11.1.1.1, ())) (fun y12 =>
              law_tableBegun_t.bind fun y13 =>
              (br y13.1
                  ((table_Check_t y12.2.1).bind fun y14 =>
                  some (decide (y14.1 = y12.1.2.2.2.2.2.1.1)))
                  (some false)).bind fun c14 =>
              (br c14
                  (some (decide (y12.1.2.2.1.1 = y12.1.2.2.2.2.2.2.1.1)))
                  (some false)).bind fun c15 =>
              (br c15
                  (some (decide (y12.1.2.1.1 = y12.1.2.2.2.2.2.2.2.2.1.1)))
                  (some false)).bind fun c16 =>
              (br c16
                  (some (decide (y12.1.2.2.2.2.1.1 = y12.1.2.2.2.2.2.2.2.1.1)))
                  (some false)).bind fun c17 =>
              (br c17
                  (some (decide (y12.1.2.2.2.1.1 = y12.1.2.2.2.2.2.2.2.2.2.1.1)))
                  (some false)).bind fun c18 =>
              some (c18, ())))))
        ((br (!decide (y3.2.1 = 3))
            (some true)
            (some (!decide (lenL y3.1 = lenL ([] : List Int))))).bind fun c7 =>
        br c7
          (some (false, ()))
          ((loopN law_TableTells_L29 FUEL (((()), (y1.1, ()), (y1.2.1, ()), (y2.1, ()), (y2.2.1, ()), (()), (y4.1, ()), (y5.1, ()), (3, ()), (0, ()), (0, ()), (()), (0, ()), ()), (a0, y3.1, ([] : List Int), ()))).bind fun y8 =>
          sumC y8 (fun y9 =>
            some (y9.1.1.1, ())) (fun y10 =>
            law_tableBegun_t.bind fun y11 =>
            (br y11.1
                ((table_Check_t y10.2.1).bind fun y12 =>
                some (decide (y12.1 = y10.1.2.2.2.2.2.1.1)))
                (some false)).bind fun c12 =>
            (br c12
                (some (decide (y10.1.2.2.1.1 = y10.1.2.2.2.2.2.2.1.1)))
                (some false)).bind fun c13 =>
            (br c13
                (some (decide (y10.1.2.1.1 = y10.1.2.2.2.2.2.2.2.2.1.1)))
                (some false)).bind fun c14 =>
            (br c14
                (some (decide (y10.1.2.2.2.2.1.1 = y10.1.2.2.2.2.2.2.2.1.1)))
                (some false)).bind fun c15 =>
            (br c15
                (some (decide (y10.1.2.2.2.1.1 = y10.1.2.2.2.2.2.2.2.2.2.1.1)))
                (some false)).bind fun c16 =>
            some (c16, ())))))
      (br (decide (y5.1 = 0))
        ((R_Host_t a1).bind fun y7 =>
        (R_NearestOf_t a0 y7.1 (-1)).bind fun y8 =>
        br (decide (y8.1 < 0))
          (br (decide (y4.1 = 0))
            (req (inRange a2 (lenL a0)) <|
            (geti a0 a2).bind fun p9 =>
            (R_NearestOf_t a0 p9 a2).bind fun y10 =>
            (loopN law_TableTells_L20 FUEL (((()), (a2, ()), (y1.1, ()), (y1.2.1, ()), (y2.1, ()), (y2.2.1, ()), (()), (y3.2.1, ()), (y4.1, ()), (5, ()), (y4.1, ()), (y4.1, ()), (0, ()), (y10.1, ()), (()), (0, ()), ()), (a0, y3.1, ([] : List Int), ()))).bind fun y11 =>
            br (decide (y11.1.2.2.2.2.2.2.2.2.2.2.2.2.1.1 < 0))
              ((br (!decide (y11.1.2.2.2.2.2.2.1.1 = y11.1.2.2.2.2.2.2.2.2.2.2.1.1))
                  (some true)
                  (some (!decide (lenL y11.2.2.1 = lenL y11.2.2.2.1)))).bind fun c12 =>
              br c12
                (some (false, ()))
                ((loopN law_TableTells_L29 FUEL (((()), (y11.1.2.1.1, ()), (y11.1.2.2.1.1, ()), (y11.1.2.2.2.1.1, ()), (y11.1.2.2.2.2.1.1, ()), (()), (y11.1.2.2.2.2.2.2.2.1.1, ()), (y11.1.2.2.2.2.2.2.2.2.1.1, ()), (5, ()), (y11.1.2.2.2.2.2.2.2.2.2.2.2.1.1, ()), (0, ()), (()), (0, ()), ()), (y11.2.1, y11.2.2.1, y11.2.2.2.1, ()))).bind fun y13 =>
                sumC y13 (fun y14 =>
                  some (y14.1.1.1, ())) (fun y15 =>
                  law_tableBegun_t.bind fun y16 =>
                  (br y16.1
                      ((table_Check_t y15.2.1).bind fun y17 =>
                      some (decide (y17.1 = y15.1.2.2.2.2.2.1.1)))
                      (some false)).bind fun c17 =>
                  (br c17
                      (some (decide (y15.1.2.2.1.1 = y15.1.2.2.2.2.2.2.1.1)))
                      (some false)).bind fun c18 =>
                  (br c18
                      (some (decide (y15.1.2.1.1 = y15.1.2.2.2.2.2.2.2.2.1.1)))
                      (some false)).bind fun c19 =>
                  (br c19
                      (some (decide (y15.1.2.2.2.2.1.1 = y15.1.2.2.2.2.2.2.2.1.1)))
                      (some false)).bind fun c20 =>
                  (br c20
                      (some (decide (y15.1.2.2.2.1.1 = y15.1.2.2.2.2.2.2.2.2.2.1.1)))
                      (some false)).bind fun c21 =>
                  some (c21, ()))))
              ((br (!decide (y11.1.2.2.2.2.2.2.1.1 = y11.1.2.2.2.2.2.2.2.2.2.2.1.1))
                  (some true)
                  (some (!decide (lenL y11.2.2.1 = lenL y11.2.2.2.1)))).bind fun c12 =>
              br c12
                (some (false, ()))
                ((loopN law_TableTells_L29 FUEL (((()), (y11.1.2.1.1, ()), (y11.1.2.2.1.1, ()), (y11.1.2.2.2.1.1, ()), (y11.1.2.2.2.2.1.1, ()), (()), (y11.1.2.2.2.2.2.2.2.1.1, ()), (y11.1.2.2.2.2.2.2.2.2.1.1, ()), (y11.1.2.2.2.2.2.2.2.2.2.1.1, ()), (y11.1.2.2.2.2.2.2.2.2.2.2.2.1.1, ()), (y11.1.2.2.2.2.2.2.2.2.2.2.2.2.1.1, ()), (()), (0, ()), ()), (y11.2.1, y11.2.2.1, y11.2.2.2.1, ()))).bind fun y13 =>
                sumC y13 (fun y14 =>
                  some (y14.1.1.1, ())) (fun y15 =>
                  law_tableBegun_t.bind fun y16 =>
                  (br y16.1
                      ((table_Check_t y15.2.1).bind fun y17 =>
                      some (decide (y17.1 = y15.1.2.2.2.2.2.1.1)))
                      (some false)).bind fun c17 =>
                  (br c17
                      (some (decide (y15.1.2.2.1.1 = y15.1.2.2.2.2.2.2.1.1)))
                      (some false)).bind fun c18 =>
                  (br c18
                      (some (decide (y15.1.2.1.1 = y15.1.2.2.2.2.2.2.2.2.1.1)))
                      (some false)).bind fun c19 =>
                  (br c19
                      (some (decide (y15.1.2.2.2.2.1.1 = y15.1.2.2.2.2.2.2.2.1.1)))
                      (some false)).bind fun c20 =>
                  (br c20
                      (some (decide (y15.1.2.2.2.1.1 = y15.1.2.2.2.2.2.2.2.2.2.1.1)))
                      (some false)).bind fun c21 =>
                  some (c21, ())))))
            ((br (!decide (y3.2.1 = y4.1))
                (some true)
                (some (!decide (lenL y3.1 = lenL ([] : List Int))))).bind fun c9 =>
            br c9
              (some (false, ()))
              ((loopN law_TableTells_L29 FUEL (((()), (y1.1, ()), (y1.2.1, ()), (y2.1, ()), (y2.2.1, ()), (()), (y4.1, ()), (5, ()), (y4.1, ()), (0, ()), (0, ()), (()), (0, ()), ()), (a0, y3.1, ([] : List Int), ()))).bind fun y10 =>
              sumC y10 (fun y11 =>
                some (y11.1.1.1, ())) (fun y12 =>
                law_tableBegun_t.bind fun y13 =>
                (br y13.1
                    ((table_Check_t y12.2.1).bind fun y14 =>
                    some (decide (y14.1 = y12.1.2.2.2.2.2.1.1)))
                    (some false)).bind fun c14 =>
                (br c14
                    (some (decide (y12.1.2.2.1.1 = y12.1.2.2.2.2.2.2.1.1)))
                    (some false)).bind fun c15 =>
                (br c15
                    (some (decide (y12.1.2.1.1 = y12.1.2.2.2.2.2.2.2.2.1.1)))
                    (some false)).bind fun c16 =>
                (br c16
                    (some (decide (y12.1.2.2.2.2.1.1 = y12.1.2.2.2.2.2.2.2.1.1)))
                    (some false)).bind fun c17 =>
                (br c17
                    (some (decide (y12.1.2.2.2.1.1 = y12.1.2.2.2.2.2.2.2.2.2.1.1)))
                    (some false)).bind fun c18 =>
                some (c18, ())))))
          (br (decide (y4.1 = 0))
            (req (inRange a2 (lenL a0)) <|
            (geti a0 a2).bind fun p9 =>
            (R_NearestOf_t a0 p9 a2).bind fun y10 =>
            (loopN law_TableTells_L20 FUEL (((()), (a2, ()), (y1.1, ()), (y1.2.1, ()), (y2.1, ()), (y2.2.1, ()), (()), (y3.2.1, ()), (y4.1, ()), (y5.1, ()), (y4.1, ()), (y4.1, ()), (y8.1, ()), (y10.1, ()), (()), (0, ()), ()), (a0, y3.1, ([] : List Int), ()))).bind fun y11 =>
            br (decide (y11.1.2.2.2.2.2.2.2.2.2.2.2.2.1.1 < 0))
              ((br (!decide (y11.1.2.2.2.2.2.2.1.1 = y11.1.2.2.2.2.2.2.2.2.2.2.1.1))
                  (some true)
                  (some (!decide (lenL y11.2.2.1 = lenL y11.2.2.2.1)))).bind fun c12 =>
              br c12
                (some (false, ()))
                ((loopN law_TableTells_L29 FUEL (((()), (y11.1.2.1.1, ()), (y11.1.2.2.1.1, ()), (y11.1.2.2.2.1.1, ()), (y11.1.2.2.2.2.1.1, ()), (()), (y11.1.2.2.2.2.2.2.2.1.1, ()), (y11.1.2.2.2.2.2.2.2.2.1.1, ()), (5, ()), (y11.1.2.2.2.2.2.2.2.2.2.2.2.1.1, ()), (0, ()), (()), (0, ()), ()), (y11.2.1, y11.2.2.1, y11.2.2.2.1, ()))).bind fun y13 =>
                sumC y13 (fun y14 =>
                  some (y14.1.1.1, ())) (fun y15 =>
                  law_tableBegun_t.bind fun y16 =>
                  (br y16.1
                      ((table_Check_t y15.2.1).bind fun y17 =>
                      some (decide (y17.1 = y15.1.2.2.2.2.2.1.1)))
                      (some false)).bind fun c17 =>
                  (br c17
                      (some (decide (y15.1.2.2.1.1 = y15.1.2.2.2.2.2.2.1.1)))
                      (some false)).bind fun c18 =>
                  (br c18
                      (some (decide (y15.1.2.1.1 = y15.1.2.2.2.2.2.2.2.2.1.1)))
                      (some false)).bind fun c19 =>
                  (br c19
                      (some (decide (y15.1.2.2.2.2.1.1 = y15.1.2.2.2.2.2.2.2.1.1)))
                      (some false)).bind fun c20 =>
                  (br c20
                      (some (decide (y15.1.2.2.2.1.1 = y15.1.2.2.2.2.2.2.2.2.2.1.1)))
                      (some false)).bind fun c21 =>
                  some (c21, ()))))
              ((br (!decide (y11.1.2.2.2.2.2.2.1.1 = y11.1.2.2.2.2.2.2.2.2.2.2.1.1))
                  (some true)
                  (some (!decide (lenL y11.2.2.1 = lenL y11.2.2.2.1)))).bind fun c12 =>
              br c12
                (some (false, ()))
                ((loopN law_TableTells_L29 FUEL (((()), (y11.1.2.1.1, ()), (y11.1.2.2.1.1, ()), (y11.1.2.2.2.1.1, ()), (y11.1.2.2.2.2.1.1, ()), (()), (y11.1.2.2.2.2.2.2.2.1.1, ()), (y11.1.2.2.2.2.2.2.2.2.1.1, ()), (y11.1.2.2.2.2.2.2.2.2.2.1.1, ()), (y11.1.2.2.2.2.2.2.2.2.2.2.2.1.1, ()), (y11.1.2.2.2.2.2.2.2.2.2.2.2.2.1.1, ()), (()), (0, ()), ()), (y11.2.1, y11.2.2.1, y11.2.2.2.1, ()))).bind fun y13 =>
                sumC y13 (fun y14 =>
                  some (y14.1.1.1, ())) (fun y15 =>
                  law_tableBegun_t.bind fun y16 =>
                  (br y16.1
                      ((table_Check_t y15.2.1).bind fun y17 =>
                      some (decide (y17.1 = y15.1.2.2.2.2.2.1.1)))
                      (some false)).bind fun c17 =>
                  (br c17
                      (some (decide (y15.1.2.2.1.1 = y15.1.2.2.2.2.2.2.1.1)))
                      (some false)).bind fun c18 =>
                  (br c18
                      (some (decide (y15.1.2.1.1 = y15.1.2.2.2.2.2.2.2.2.1.1)))
                      (some false)).bind fun c19 =>
                  (br c19
                      (some (decide (y15.1.2.2.2.2.1.1 = y15.1.2.2.2.2.2.2.2.1.1)))
                      (some false)).bind fun c20 =>
                  (br c20
                      (some (decide (y15.1.2.2.2.1.1 = y15.1.2.2.2.2.2.2.2.2.2.1.1)))
                      (some false)).bind fun c21 =>
                  some (c21, ())))))
            ((br (!decide (y3.2.1 = y4.1))
                (some true)
                (some (!decide (lenL y3.1 = lenL ([] : List Int))))).bind fun c9 =>
            br c9
              (some (false, ()))
              ((loopN law_TableTells_L29 FUEL (((()), (y1.1, ()), (y1.2.1, ()), (y2.1, ()), (y2.2.1, ()), (()), (y4.1, ()), (y5.1, ()), (y4.1, ()), (y8.1, ()), (0, ()), (()), (0, ()), ()), (a0, y3.1, ([] : List Int), ()))).bind fun y10 =>
              sumC y10 (fun y11 =>
                some (y11.1.1.1, ())) (fun y12 =>
                law_tableBegun_t.bind fun y13 =>
                (br y13.1
                    ((table_Check_t y12.2.1).bind fun y14 =>
                    some (decide (y14.1 = y12.1.2.2.2.2.2.1.1)))
                    (some false)).bind fun c14 =>
                (br c14
                    (some (decide (y12.1.2.2.1.1 = y12.1.2.2.2.2.2.2.1.1)))
                    (some false)).bind fun c15 =>
                (br c15
                    (some (decide (y12.1.2.1.1 = y12.1.2.2.2.2.2.2.2.2.1.1)))
                    (some false)).bind fun c16 =>
                (br c16
                    (some (decide (y12.1.2.2.2.2.1.1 = y12.1.2.2.2.2.2.2.2.1.1)))
                    (some false)).bind fun c17 =>
                (br c17
                    (some (decide (y12.1.2.2.2.1.1 = y12.1.2.2.2.2.2.2.2.2.2.1.1)))
                    (some false)).bind fun c18 =>
                some (c18, ()))))))
        (br (decide (y4.1 = 0))
          (req (inRange a2 (lenL a0)) <|
          (geti a0 a2).bind fun p7 =>
          (R_NearestOf_t a0 p7 a2).bind fun y8 =>
          (loopN law_TableTells_L20 FUEL (((()), (a2, ()), (y1.1, ()), (y1.2.1, ()), (y2.1, ()), (y2.2.1, ()), (()), (y3.2.1, ()), (y4.1, ()), (y5.1, ()), (y4.1, ()), (y4.1, ()), (0, ()), (y8.1, ()), (()), (0, ()), ()), (a0, y3.1, ([] : List Int), ()))).bind fun y9 =>
          br (decide (y9.1.2.2.2.2.2.2.2.2.2.2.2.2.1.1 < 0))
            ((br (!decide (y9.1.2.2.2.2.2.2.1.1 = y9.1.2.2.2.2.2.2.2.2.2.2.1.1))
                (some true)
                (some (!decide (lenL y9.2.2.1 = lenL y9.2.2.2.1)))).bind fun c10 =>
            br c10
              (some (false, ()))
              ((loopN law_TableTells_L29 FUEL (((()), (y9.1.2.1.1, ()), (y9.1.2.2.1.1, ()), (y9.1.2.2.2.1.1, ()), (y9.1.2.2.2.2.1.1, ()), (()), (y9.1.2.2.2.2.2.2.2.1.1, ()), (y9.1.2.2.2.2.2.2.2.2.1.1, ()), (5, ()), (y9.1.2.2.2.2.2.2.2.2.2.2.2.1.1, ()), (0, ()), (()), (0, ()), ()), (y9.2.1, y9.2.2.1, y9.2.2.2.1, ()))).bind fun y11 =>
              sumC y11 (fun y12 =>
                some (y12.1.1.1, ())) (fun y13 =>
                law_tableBegun_t.bind fun y14 =>
                (br y14.1
                    ((table_Check_t y13.2.1).bind fun y15 =>
                    some (decide (y15.1 = y13.1.2.2.2.2.2.1.1)))
                    (some false)).bind fun c15 =>
                (br c15
                    (some (decide (y13.1.2.2.1.1 = y13.1.2.2.2.2.2.2.1.1)))
                    (some false)).bind fun c16 =>
                (br c16
                    (some (decide (y13.1.2.1.1 = y13.1.2.2.2.2.2.2.2.2.1.1)))
                    (some false)).bind fun c17 =>
                (br c17
                    (some (decide (y13.1.2.2.2.2.1.1 = y13.1.2.2.2.2.2.2.2.1.1)))
                    (some false)).bind fun c18 =>
                (br c18
                    (some (decide (y13.1.2.2.2.1.1 = y13.1.2.2.2.2.2.2.2.2.2.1.1)))
                    (some false)).bind fun c19 =>
                some (c19, ()))))
            ((br (!decide (y9.1.2.2.2.2.2.2.1.1 = y9.1.2.2.2.2.2.2.2.2.2.2.1.1))
                (some true)
                (some (!decide (lenL y9.2.2.1 = lenL y9.2.2.2.1)))).bind fun c10 =>
            br c10
              (some (false, ()))
              ((loopN law_TableTells_L29 FUEL (((()), (y9.1.2.1.1, ()), (y9.1.2.2.1.1, ()), (y9.1.2.2.2.1.1, ()), (y9.1.2.2.2.2.1.1, ()), (()), (y9.1.2.2.2.2.2.2.2.1.1, ()), (y9.1.2.2.2.2.2.2.2.2.1.1, ()), (y9.1.2.2.2.2.2.2.2.2.2.1.1, ()), (y9.1.2.2.2.2.2.2.2.2.2.2.2.1.1, ()), (y9.1.2.2.2.2.2.2.2.2.2.2.2.2.1.1, ()), (()), (0, ()), ()), (y9.2.1, y9.2.2.1, y9.2.2.2.1, ()))).bind fun y11 =>
              sumC y11 (fun y12 =>
                some (y12.1.1.1, ())) (fun y13 =>
                law_tableBegun_t.bind fun y14 =>
                (br y14.1
                    ((table_Check_t y13.2.1).bind fun y15 =>
                    some (decide (y15.1 = y13.1.2.2.2.2.2.1.1)))
                    (some false)).bind fun c15 =>
                (br c15
                    (some (decide (y13.1.2.2.1.1 = y13.1.2.2.2.2.2.2.1.1)))
                    (some false)).bind fun c16 =>
                (br c16
                    (some (decide (y13.1.2.1.1 = y13.1.2.2.2.2.2.2.2.2.1.1)))
                    (some false)).bind fun c17 =>
                (br c17
                    (some (decide (y13.1.2.2.2.2.1.1 = y13.1.2.2.2.2.2.2.2.1.1)))
                    (some false)).bind fun c18 =>
                (br c18
                    (some (decide (y13.1.2.2.2.1.1 = y13.1.2.2.2.2.2.2.2.2.2.1.1)))
                    (some false)).bind fun c19 =>
                some (c19, ())))))
          ((br (!decide (y3.2.1 = y4.1))
              (some true)
              (some (!decide (lenL y3.1 = lenL ([] : List Int))))).bind fun c7 =>
          br c7
            (some (false, ()))
            ((loopN law_TableTells_L29 FUEL (((()), (y1.1, ()), (y1.2.1, ()), (y2.1, ()), (y2.2.1, ()), (()), (y4.1, ()), (y5.1, ()), (y4.1, ()), (0, ()), (0, ()), (()), (0, ()), ()), (a0, y3.1, ([] : List Int), ()))).bind fun y8 =>
            sumC y8 (fun y9 =>
              some (y9.1.1.1, ())) (fun y10 =>
              law_tableBegun_t.bind fun y11 =>
              (br y11.1
                  ((table_Check_t y10.2.1).bind fun y12 =>
                  some (decide (y12.1 = y10.1.2.2.2.2.2.1.1)))
                  (some false)).bind fun c12 =>
              (br c12
                  (some (decide (y10.1.2.2.1.1 = y10.1.2.2.2.2.2.2.1.1)))
                  (some false)).bind fun c13 =>
              (br c13
                  (some (decide (y10.1.2.1.1 = y10.1.2.2.2.2.2.2.2.2.1.1)))
                  (some false)).bind fun c14 =>
              (br c14
                  (some (decide (y10.1.2.2.2.2.1.1 = y10.1.2.2.2.2.2.2.2.1.1)))
                  (some false)).bind fun c15 =>
              (br c15
                  (some (decide (y10.1.2.2.2.1.1 = y10.1.2.2.2.2.2.2.2.2.2.1.1)))
                  (some false)).bind fun c16 =>
              some (c16, ())))))))
    ((br (decide (y4.1 = 0))
        (br (decide (a2 < 0))
          (some true)
          (some (decide (a2 ≥ lenL a0))))
        (some false)).bind fun c5 =>
    br c5
      (br (decide (y4.1 = 0))
        ((R_Host_t a1).bind fun y6 =>
        (R_NearestOf_t a0 y6.1 (-1)).bind fun y7 =>
        br (decide (y7.1 < 0))
          ((br (!decide (y3.2.1 = 3))
              (some true)
              (some (!decide (lenL y3.1 = lenL ([] : List Int))))).bind fun c8 =>
          br c8
            (some (false, ()))
            ((loopN law_TableTells_L29 FUEL (((()), (y1.1, ()), (y1.2.1, ()), (y2.1, ()), (y2.2.1, ()), (()), (y4.1, ()), (5, ()), (3, ()), (0, ()), (0, ()), (()), (0, ()), ()), (a0, y3.1, ([] : List Int), ()))).bind fun y9 =>
            sumC y9 (fun y10 =>
              some (y10.1.1.1, ())) (fun y11 =>
              law_tableBegun_t.bind fun y12 =>
              (br y12.1
                  ((table_Check_t y11.2.1).bind fun y13 =>
                  some (decide (y13.1 = y11.1.2.2.2.2.2.1.1)))
                  (some false)).bind fun c13 =>
              (br c13
                  (some (decide (y11.1.2.2.1.1 = y11.1.2.2.2.2.2.2.1.1)))
                  (some false)).bind fun c14 =>
              (br c14
                  (some (decide (y11.1.2.1.1 = y11.1.2.2.2.2.2.2.2.2.1.1)))
                  (some false)).bind fun c15 =>
              (br c15
                  (some (decide (y11.1.2.2.2.2.1.1 = y11.1.2.2.2.2.2.2.2.1.1)))
                  (some false)).bind fun c16 =>
              (br c16
                  (some (decide (y11.1.2.2.2.1.1 = y11.1.2.2.2.2.2.2.2.2.2.1.1)))
                  (some false)).bind fun c17 =>
              some (c17, ()))))
          ((br (!decide (y3.2.1 = 3))
              (some true)
              (some (!decide (lenL y3.1 = lenL ([] : List Int))))).bind fun c8 =>
          br c8
            (some (false, ()))
            ((loopN law_TableTells_L29 FUEL (((()), (y1.1, ()), (y1.2.1, ()), (y2.1, ()), (y2.2.1, ()), (()), (y4.1, ()), (y4.1, ()), (3, ()), (y7.1, ()), (0, ()), (()), (0, ()), ()), (a0, y3.1, ([] : List Int), ()))).bind fun y9 =>
            sumC y9 (fun y10 =>
              some (y10.1.1.1, ())) (fun y11 =>
              law_tableBegun_t.bind fun y12 =>
              (br y12.1
                  ((table_Check_t y11.2.1).bind fun y13 =>
                  some (decide (y13.1 = y11.1.2.2.2.2.2.1.1)))
                  (some false)).bind fun c13 =>
              (br c13
                  (some (decide (y11.1.2.2.1.1 = y11.1.2.2.2.2.2.2.1.1)))
                  (some false)).bind fun c14 =>
              (br c14
                  (some (decide (y11.1.2.1.1 = y11.1.2.2.2.2.2.2.2.2.1.1)))
                  (some false)).bind fun c15 =>
              (br c15
                  (some (decide (y11.1.2.2.2.2.1.1 = y11.1.2.2.2.2.2.2.2.1.1)))
                  (some false)).bind fun c16 =>
              (br c16
                  (some (decide (y11.1.2.2.2.1.1 = y11.1.2.2.2.2.2.2.2.2.2.1.1)))
                  (some false)).bind fun c17 =>
              some (c17, ())))))
        ((br (!decide (y3.2.1 = 3))
            (some true)
            (some (!decide (lenL y3.1 = lenL ([] : List Int))))).bind fun c6 =>
        br c6
          (some (false, ()))
          ((loopN law_TableTells_L29 FUEL (((()), (y1.1, ()), (y1.2.1, ()), (y2.1, ()), (y2.2.1, ()), (()), (y4.1, ()), (y4.1, ()), (3, ()), (0, ()), (0, ()), (()), (0, ()), ()), (a0, y3.1, ([] : List Int), ()))).bind fun y7 =>
          sumC y7 (fun y8 =>
            some (y8.1.1.1, ())) (fun y9 =>
            law_tableBegun_t.bind fun y10 =>
            (br y10.1
                ((table_Check_t y9.2.1).bind fun y11 =>
                some (decide (y11.1 = y9.1.2.2.2.2.2.1.1)))
                (some false)).bind fun c11 =>
            (br c11
                (some (decide (y9.1.2.2.1.1 = y9.1.2.2.2.2.2.2.1.1)))
                (some false)).bind fun c12 =>
            (br c12
                (some (decide (y9.1.2.1.1 = y9.1.2.2.2.2.2.2.2.2.1.1)))
                (some false)).bind fun c13 =>
            (br c13
                (some (decide (y9.1.2.2.2.2.1.1 = y9.1.2.2.2.2.2.2.2.1.1)))
                (some false)).bind fun c14 =>
            (br c14
                (some (decide (y9.1.2.2.2.1.1 = y9.1.2.2.2.2.2.2.2.2.2.1.1)))
                (some false)).bind fun c15 =>
            some (c15, ())))))
      (br (decide (y4.1 = 0))
        ((R_Host_t a1).bind fun y6 =>
        (R_NearestOf_t a0 y6.1 (-1)).bind fun y7 =>
        br (decide (y7.1 < 0))
          (br (decide (y4.1 = 0))
            (req (inRange a2 (lenL a0)) <|
            (geti a0 a2).bind fun p8 =>
            (R_NearestOf_t a0 p8 a2).bind fun y9 =>
            (loopN law_TableTells_L20 FUEL (((()), (a2, ()), (y1.1, ()), (y1.2.1, ()), (y2.1, ()), (y2.2.1, ()), (()), (y3.2.1, ()), (y4.1, ()), (5, ()), (y4.1, ()), (y4.1, ()), (0, ()), (y9.1, ()), (()), (0, ()), ()), (a0, y3.1, ([] : List Int), ()))).bind fun y10 =>
            br (decide (y10.1.2.2.2.2.2.2.2.2.2.2.2.2.1.1 < 0))
              ((br (!decide (y10.1.2.2.2.2.2.2.1.1 = y10.1.2.2.2.2.2.2.2.2.2.2.1.1))
                  (some true)
                  (some (!decide (lenL y10.2.2.1 = lenL y10.2.2.2.1)))).bind fun c11 =>
              br c11
                (some (false, ()))
                ((loopN law_TableTells_L29 FUEL (((()), (y10.1.2.1.1, ()), (y10.1.2.2.1.1, ()), (y10.1.2.2.2.1.1, ()), (y10.1.2.2.2.2.1.1, ()), (()), (y10.1.2.2.2.2.2.2.2.1.1, ()), (y10.1.2.2.2.2.2.2.2.2.1.1, ()), (5, ()), (y10.1.2.2.2.2.2.2.2.2.2.2.2.1.1, ()), (0, ()), (()), (0, ()), ()), (y10.2.1, y10.2.2.1, y10.2.2.2.1, ()))).bind fun y12 =>
                sumC y12 (fun y13 =>
                  some (y13.1.1.1, ())) (fun y14 =>
                  law_tableBegun_t.bind fun y15 =>
                  (br y15.1
                      ((table_Check_t y14.2.1).bind fun y16 =>
                      some (decide (y16.1 = y14.1.2.2.2.2.2.1.1)))
                      (some false)).bind fun c16 =>
                  (br c16
                      (some (decide (y14.1.2.2.1.1 = y14.1.2.2.2.2.2.2.1.1)))
                      (some false)).bind fun c17 =>
                  (br c17
                      (some (decide (y14.1.2.1.1 = y14.1.2.2.2.2.2.2.2.2.1.1)))
                      (some false)).bind fun c18 =>
                  (br c18
                      (some (decide (y14.1.2.2.2.2.1.1 = y14.1.2.2.2.2.2.2.2.1.1)))
                      (some false)).bind fun c19 =>
                  (br c19
                      (some (decide (y14.1.2.2.2.1.1 = y14.1.2.2.2.2.2.2.2.2.2.1.1)))
                      (some false)).bind fun c20 =>
                  some (c20, ()))))
              ((br (!decide (y10.1.2.2.2.2.2.2.1.1 = y10.1.2.2.2.2.2.2.2.2.2.2.1.1))
                  (some true)
                  (some (!decide (lenL y10.2.2.1 = lenL y10.2.2.2.1)))).bind fun c11 =>
              br c11
                (some (false, ()))
                ((loopN law_TableTells_L29 FUEL (((()), (y10.1.2.1.1, ()), (y10.1.2.2.1.1, ()), (y10.1.2.2.2.1.1, ()), (y10.1.2.2.2.2.1.1, ()), (()), (y10.1.2.2.2.2.2.2.2.1.1, ()), (y10.1.2.2.2.2.2.2.2.2.1.1, ()), (y10.1.2.2.2.2.2.2.2.2.2.1.1, ()), (y10.1.2.2.2.2.2.2.2.2.2.2.2.1.1, ()), (y10.1.2.2.2.2.2.2.2.2.2.2.2.2.1.1, ()), (()), (0, ()), ()), (y10.2.1, y10.2.2.1, y10.2.2.2.1, ()))).bind fun y12 =>
                sumC y12 (fun y13 =>
                  some (y13.1.1.1, ())) (fun y14 =>
                  law_tableBegun_t.bind fun y15 =>
                  (br y15.1
                      ((table_Check_t y14.2.1).bind fun y16 =>
                      some (decide (y16.1 = y14.1.2.2.2.2.2.1.1)))
                      (some false)).bind fun c16 =>
                  (br c16
                      (some (decide (y14.1.2.2.1.1 = y14.1.2.2.2.2.2.2.1.1)))
                      (some false)).bind fun c17 =>
                  (br c17
                      (some (decide (y14.1.2.1.1 = y14.1.2.2.2.2.2.2.2.2.1.1)))
                      (some false)).bind fun c18 =>
                  (br c18
                      (some (decide (y14.1.2.2.2.2.1.1 = y14.1.2.2.2.2.2.2.2.1.1)))
                      (some false)).bind fun c19 =>
                  (br c19
                      (some (decide (y14.1.2.2.2.1.1 = y14.1.2.2.2.2.2.2.2.2.2.1.1)))
                      (some false)).bind fun c20 =>
                  some (c20, ())))))
            ((br (!decide (y3.2.1 = y4.1))
                (some true)
                (some (!decide (lenL y3.1 = lenL ([] : List Int))))).bind fun c8 =>
            br c8
              (some (false, ()))
              ((loopN law_TableTells_L29 FUEL (((()), (y1.1, ()), (y1.2.1, ()), (y2.1, ()), (y2.2.1, ()), (()), (y4.1, ()), (5, ()), (y4.1, ()), (0, ()), (0, ()), (()), (0, ()), ()), (a0, y3.1, ([] : List Int), ()))).bind fun y9 =>
              sumC y9 (fun y10 =>
                some (y10.1.1.1, ())) (fun y11 =>
                law_tableBegun_t.bind fun y12 =>
                (br y12.1
                    ((table_Check_t y11.2.1).bind fun y13 =>
                    some (decide (y13.1 = y11.1.2.2.2.2.2.1.1)))
                    (some false)).bind fun c13 =>
                (br c13
                    (some (decide (y11.1.2.2.1.1 = y11.1.2.2.2.2.2.2.1.1)))
                    (some false)).bind fun c14 =>
                (br c14
                    (some (decide (y11.1.2.1.1 = y11.1.2.2.2.2.2.2.2.2.1.1)))
                    (some false)).bind fun c15 =>
                (br c15
                    (some (decide (y11.1.2.2.2.2.1.1 = y11.1.2.2.2.2.2.2.2.1.1)))
                    (some false)).bind fun c16 =>
                (br c16
                    (some (decide (y11.1.2.2.2.1.1 = y11.1.2.2.2.2.2.2.2.2.2.1.1)))
                    (some false)).bind fun c17 =>
                some (c17, ())))))
          (br (decide (y4.1 = 0))
            (req (inRange a2 (lenL a0)) <|
            (geti a0 a2).bind fun p8 =>
            (R_NearestOf_t a0 p8 a2).bind fun y9 =>
            (loopN law_TableTells_L20 FUEL (((()), (a2, ()), (y1.1, ()), (y1.2.1, ()), (y2.1, ()), (y2.2.1, ()), (()), (y3.2.1, ()), (y4.1, ()), (y4.1, ()), (y4.1, ()), (y4.1, ()), (y7.1, ()), (y9.1, ()), (()), (0, ()), ()), (a0, y3.1, ([] : List Int), ()))).bind fun y10 =>
            br (decide (y10.1.2.2.2.2.2.2.2.2.2.2.2.2.1.1 < 0))
              ((br (!decide (y10.1.2.2.2.2.2.2.1.1 = y10.1.2.2.2.2.2.2.2.2.2.2.1.1))
                  (some true)
                  (some (!decide (lenL y10.2.2.1 = lenL y10.2.2.2.1)))).bind fun c11 =>
              br c11
                (some (false, ()))
                ((loopN law_TableTells_L29 FUEL (((()), (y10.1.2.1.1, ()), (y10.1.2.2.1.1, ()), (y10.1.2.2.2.1.1, ()), (y10.1.2.2.2.2.1.1, ()), (()), (y10.1.2.2.2.2.2.2.2.1.1, ()), (y10.1.2.2.2.2.2.2.2.2.1.1, ()), (5, ()), (y10.1.2.2.2.2.2.2.2.2.2.2.2.1.1, ()), (0, ()), (()), (0, ()), ()), (y10.2.1, y10.2.2.1, y10.2.2.2.1, ()))).bind fun y12 =>
                sumC y12 (fun y13 =>
                  some (y13.1.1.1, ())) (fun y14 =>
                  law_tableBegun_t.bind fun y15 =>
                  (br y15.1
                      ((table_Check_t y14.2.1).bind fun y16 =>
                      some (decide (y16.1 = y14.1.2.2.2.2.2.1.1)))
                      (some false)).bind fun c16 =>
                  (br c16
                      (some (decide (y14.1.2.2.1.1 = y14.1.2.2.2.2.2.2.1.1)))
                      (some false)).bind fun c17 =>
                  (br c17
                      (some (decide (y14.1.2.1.1 = y14.1.2.2.2.2.2.2.2.2.1.1)))
                      (some false)).bind fun c18 =>
                  (br c18
                      (some (decide (y14.1.2.2.2.2.1.1 = y14.1.2.2.2.2.2.2.2.1.1)))
                      (some false)).bind fun c19 =>
                  (br c19
                      (some (decide (y14.1.2.2.2.1.1 = y14.1.2.2.2.2.2.2.2.2.2.1.1)))
                      (some false)).bind fun c20 =>
                  some (c20, ()))))
              ((br (!decide (y10.1.2.2.2.2.2.2.1.1 = y10.1.2.2.2.2.2.2.2.2.2.2.1.1))
                  (some true)
                  (some (!decide (lenL y10.2.2.1 = lenL y10.2.2.2.1)))).bind fun c11 =>
              br c11
                (some (false, ()))
                ((loopN law_TableTells_L29 FUEL (((()), (y10.1.2.1.1, ()), (y10.1.2.2.1.1, ()), (y10.1.2.2.2.1.1, ()), (y10.1.2.2.2.2.1.1, ()), (()), (y10.1.2.2.2.2.2.2.2.1.1, ()), (y10.1.2.2.2.2.2.2.2.2.1.1, ()), (y10.1.2.2.2.2.2.2.2.2.2.1.1, ()), (y10.1.2.2.2.2.2.2.2.2.2.2.2.1.1, ()), (y10.1.2.2.2.2.2.2.2.2.2.2.2.2.1.1, ()), (()), (0, ()), ()), (y10.2.1, y10.2.2.1, y10.2.2.2.1, ()))).bind fun y12 =>
                sumC y12 (fun y13 =>
                  some (y13.1.1.1, ())) (fun y14 =>
                  law_tableBegun_t.bind fun y15 =>
                  (br y15.1
                      ((table_Check_t y14.2.1).bind fun y16 =>
                      some (decide (y16.1 = y14.1.2.2.2.2.2.1.1)))
                      (some false)).bind fun c16 =>
                  (br c16
                      (some (decide (y14.1.2.2.1.1 = y14.1.2.2.2.2.2.2.1.1)))
                      (some false)).bind fun c17 =>
                  (br c17
                      (some (decide (y14.1.2.1.1 = y14.1.2.2.2.2.2.2.2.2.1.1)))
                      (some false)).bind fun c18 =>
                  (br c18
                      (some (decide (y14.1.2.2.2.2.1.1 = y14.1.2.2.2.2.2.2.2.1.1)))
                      (some false)).bind fun c19 =>
                  (br c19
                      (some (decide (y14.1.2.2.2.1.1 = y14.1.2.2.2.2.2.2.2.2.2.1.1)))
                      (some false)).bind fun c20 =>
                  some (c20, ())))))
            ((br (!decide (y3.2.1 = y4.1))
                (some true)
                (some (!decide (lenL y3.1 = lenL ([] : List Int))))).bind fun c8 =>
            br c8
              (some (false, ()))
              ((loopN law_TableTells_L29 FUEL (((()), (y1.1, ()), (y1.2.1, ()), (y2.1, ()), (y2.2.1, ()), (()), (y4.1, ()), (y4.1, ()), (y4.1, ()), (y7.1, ()), (0, ()), (()), (0, ()), ()), (a0, y3.1, ([] : List Int), ()))).bind fun y9 =>
              sumC y9 (fun y10 =>
                some (y10.1.1.1, ())) (fun y11 =>
                law_tableBegun_t.bind fun y12 =>
                (br y12.1
                    ((table_Check_t y11.2.1).bind fun y13 =>
                    some (decide (y13.1 = y11.1.2.2.2.2.2.1.1)))
                    (some false)).bind fun c13 =>
                (br c13
                    (some (decide (y11.1.2.2.1.1 = y11.1.2.2.2.2.2.2.1.1)))
                    (some false)).bind fun c14 =>
                (br c14
                    (some (decide (y11.1.2.1.1 = y11.1.2.2.2.2.2.2.2.2.1.1)))
                    (some false)).bind fun c15 =>
                (br c15
                    (some (decide (y11.1.2.2.2.2.1.1 = y11.1.2.2.2.2.2.2.2.1.1)))
                    (some false)).bind fun c16 =>
                (br c16
                    (some (decide (y11.1.2.2.2.1.1 = y11.1.2.2.2.2.2.2.2.2.2.1.1)))
                    (some false)).bind fun c17 =>
                some (c17, ()))))))
        (br (decide (y4.1 = 0))
          (req (inRange a2 (lenL a0)) <|
          (geti a0 a2).bind fun p6 =>
          (R_NearestOf_t a0 p6 a2).bind fun y7 =>
          (loopN law_TableTells_L20 FUEL (((()), (a2, ()), (y1.1, ()), (y1.2.1, ()), (y2.1, ()), (y2.2.1, ()), (()), (y3.2.1, ()), (y4.1, ()), (y4.1, ()), (y4.1, ()), (y4.1, ()), (0, ()), (y7.1, ()), (()), (0, ()), ()), (a0, y3.1, ([] : List Int), ()))).bind fun y8 =>
          br (decide (y8.1.2.2.2.2.2.2.2.2.2.2.2.2.1.1 < 0))
            ((br (!decide (y8.1.2.2.2.2.2.2.1.1 = y8.1.2.2.2.2.2.2.2.2.2.2.1.1))
                (some true)
                (some (!decide (lenL y8.2.2.1 = lenL y8.2.2.2.1)))).bind fun c9 =>
            br c9
              (some (false, ()))
              ((loopN law_TableTells_L29 FUEL (((()), (y8.1.2.1.1, ()), (y8.1.2.2.1.1, ()), (y8.1.2.2.2.1.1, ()), (y8.1.2.2.2.2.1.1, ()), (()), (y8.1.2.2.2.2.2.2.2.1.1, ()), (y8.1.2.2.2.2.2.2.2.2.1.1, ()), (5, ()), (y8.1.2.2.2.2.2.2.2.2.2.2.2.1.1, ()), (0, ()), (()), (0, ()), ()), (y8.2.1, y8.2.2.1, y8.2.2.2.1, ()))).bind fun y10 =>
              sumC y10 (fun y11 =>
                some (y11.1.1.1, ())) (fun y12 =>
                law_tableBegun_t.bind fun y13 =>
                (br y13.1
                    ((table_Check_t y12.2.1).bind fun y14 =>
                    some (decide (y14.1 = y12.1.2.2.2.2.2.1.1)))
                    (some false)).bind fun c14 =>
                (br c14
                    (some (decide (y12.1.2.2.1.1 = y12.1.2.2.2.2.2.2.1.1)))
                    (some false)).bind fun c15 =>
                (br c15
                    (some (decide (y12.1.2.1.1 = y12.1.2.2.2.2.2.2.2.2.1.1)))
                    (some false)).bind fun c16 =>
                (br c16
                    (some (decide (y12.1.2.2.2.2.1.1 = y12.1.2.2.2.2.2.2.2.1.1)))
                    (some false)).bind fun c17 =>
                (br c17
                    (some (decide (y12.1.2.2.2.1.1 = y12.1.2.2.2.2.2.2.2.2.2.1.1)))
                    (some false)).bind fun c18 =>
                some (c18, ()))))
            ((br (!decide (y8.1.2.2.2.2.2.2.1.1 = y8.1.2.2.2.2.2.2.2.2.2.2.1.1))
                (some true)
                (some (!decide (lenL y8.2.2.1 = lenL y8.2.2.2.1)))).bind fun c9 =>
            br c9
              (some (false, ()))
              ((loopN law_TableTells_L29 FUEL (((()), (y8.1.2.1.1, ()), (y8.1.2.2.1.1, ()), (y8.1.2.2.2.1.1, ()), (y8.1.2.2.2.2.1.1, ()), (()), (y8.1.2.2.2.2.2.2.2.1.1, ()), (y8.1.2.2.2.2.2.2.2.2.1.1, ()), (y8.1.2.2.2.2.2.2.2.2.2.1.1, ()), (y8.1.2.2.2.2.2.2.2.2.2.2.2.1.1, ()), (y8.1.2.2.2.2.2.2.2.2.2.2.2.2.1.1, ()), (()), (0, ()), ()), (y8.2.1, y8.2.2.1, y8.2.2.2.1, ()))).bind fun y10 =>
              sumC y10 (fun y11 =>
                some (y11.1.1.1, ())) (fun y12 =>
                law_tableBegun_t.bind fun y13 =>
                (br y13.1
                    ((table_Check_t y12.2.1).bind fun y14 =>
                    some (decide (y14.1 = y12.1.2.2.2.2.2.1.1)))
                    (some false)).bind fun c14 =>
                (br c14
                    (some (decide (y12.1.2.2.1.1 = y12.1.2.2.2.2.2.2.1.1)))
                    (some false)).bind fun c15 =>
                (br c15
                    (some (decide (y12.1.2.1.1 = y12.1.2.2.2.2.2.2.2.2.1.1)))
                    (some false)).bind fun c16 =>
                (br c16
                    (some (decide (y12.1.2.2.2.2.1.1 = y12.1.2.2.2.2.2.2.2.1.1)))
                    (some false)).bind fun c17 =>
                (br c17
                    (some (decide (y12.1.2.2.2.1.1 = y12.1.2.2.2.2.2.2.2.2.2.1.1)))
                    (some false)).bind fun c18 =>
                some (c18, ())))))
          ((br (!decide (y3.2.1 = y4.1))
              (some true)
              (some (!decide (lenL y3.1 = lenL ([] : List Int))))).bind fun c6 =>
          br c6
            (some (false, ()))
            ((loopN law_TableTells_L29 FUEL (((()), (y1.1, ()), (y1.2.1, ()), (y2.1, ()), (y2.2.1, ()), (()), (y4.1, ()), (y4.1, ()), (y4.1, ()), (0, ()), (0, ()), (()), (0, ()), ()), (a0, y3.1, ([] : List Int), ()))).bind fun y7 =>
            sumC y7 (fun y8 =>
              some (y8.1.1.1, ())) (fun y9 =>
              law_tableBegun_t.bind fun y10 =>
              (br y10.1
                  ((table_Check_t y9.2.1).bind fun y11 =>
                  some (decide (y11.1 = y9.1.2.2.2.2.2.1.1)))
                  (some false)).bind fun c11 =>
              (br c11
                  (some (decide (y9.1.2.2.1.1 = y9.1.2.2.2.2.2.2.1.1)))
                  (some false)).bind fun c12 =>
              (br c12
                  (some (decide (y9.1.2.1.1 = y9.1.2.2.2.2.2.2.2.2.1.1)))
                  (some false)).bind fun c13 =>
              (br c13
                  (some (decide (y9.1.2.2.2.2.1.1 = y9.1.2.2.2.2.2.2.2.1.1)))
                  (some false)).bind fun c14 =>
              (br c14
                  (some (decide (y9.1.2.2.2.1.1 = y9.1.2.2.2.2.2.2.2.2.2.1.1)))
                  (some false)).bind fun c15 =>
              some (c15, ())))))))

end Go.Ma
