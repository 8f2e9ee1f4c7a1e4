/-
  The plain forms of the program's functions, as the machine runs them: those that hang on the second contracts made by hand. Written by a program of mine.
-/
import Derived.Test.YtaicmdnpjgijjaaGreatDoorHa
import Derived.Test.YtaicmdnpjgijjaaGreatDoorPm
namespace Go.Ma
open Go
/-- yardarm/yardarmlaw.tableBegun -/
noncomputable def law_tableBegun_t : Option (Bool × Unit) :=
  law_routes_t.bind fun y1 =>
  (law_v4_t 167838211).bind fun y2 =>
  (table_Find_t y1.1 y2.1).bind fun y3 =>
  law_routes_t.bind fun y4 =>
  (table_Above_t y4.1 2).bind fun y5 =>
  law_routes_t.bind fun y6 =>
  (table_Below_t y6.1 0).bind fun y7 =>
  law_routes_t.bind fun y8 =>
  (table_Check_t y8.1).bind fun y9 =>
  (br (decide (y9.1 = 0))
      (some (decide (y3.2.1 = 0)))
      (some false)).bind fun c10 =>
  (br c10
      (some (decide (y5.2.1 = 0)))
      (some false)).bind fun c11 =>
  (br c11
      (some (decide (y7.2.1 = 0)))
      (some false)).bind fun c12 =>
  (br c12
      (some (decide (y3.1 = 2)))
      (some false)).bind fun c13 =>
  (br c13
      (some (decide (y5.1 = 1)))
      (some false)).bind fun c14 =>
  (br c14
      (some (decide (lenL y7.1 = 1)))
      (some false)).bind fun c15 =>
  (br c15
      (req (inRange 0 (lenL y7.1)) <|
      (geti y7.1 0).bind fun p16 =>
      some (decide (p16 = 1)))
      (some false)).bind fun c16 =>
  some (c16, ())

noncomputable def law_TableTree_L14 (rec : (((Unit) × (Unit) × (Int × Unit) × (Int × Unit) × (Unit) × (Int × Unit) × Unit) × (List Pf × (Ad × Unit) × List Int × Unit)) → Option ((((Bool × Unit) × Unit) × (List Pf × Unit)) ⊕ (((Unit) × (Unit) × (Int × Unit) × (Int × Unit) × Unit) × (List Pf × (Ad × Unit) × Unit)))) (x : (((Unit) × (Unit) × (Int × Unit) × (Int × Unit) × (Unit) × (Int × Unit) × Unit) × (List Pf × (Ad × Unit) × List Int × Unit))) : Option ((((Bool × Unit) × Unit) × (List Pf × Unit)) ⊕ (((Unit) × (Unit) × (Int × Unit) × (Int × Unit) × Unit) × (List Pf × (Ad × Unit) × Unit))) :=
  let v0 := x.1.2.2.1.1
  let v1 := x.1.2.2.2.1.1
  let v2 := x.1.2.2.2.2.2.1.1
  let v3 := x.2.1
  let v4 := x.2.2.1.1
  let v5 := x.2.2.2.1
  br (decide (v2 < lenL v5))
    (req (inRange v2 (lenL v5)) <|
    (geti v5 v2).bind fun p1 =>
    (table_Above_t v3 p1).bind fun y2 =>
    req (inRange v1 (lenL v3)) <|
    (geti v3 v1).bind fun p3 =>
    req (inRange v2 (lenL v5)) <|
    (geti v5 v2).bind fun p4 =>
    req (inRange p4 (lenL v3)) <|
    (geti v3 p4).bind fun p5 =>
    (prefix_Has_t p3 p5).bind fun y6 =>
    (br (!decide (y2.2.1 = 0))
        (some true)
        (some (!decide (y6.2.1 = 0)))).bind fun c7 =>
    (br c7
        (some true)
        (some (!decide (y2.1 = v1)))).bind fun c8 =>
    (br c8
        (some true)
        (some (!y6.1))).bind fun c9 =>
    br c9
      (some (Sum.inl (((false, ()), ()), (v3, ()))))
      (req (i64ok (v2 + 1)) <|
      rec (((()), (()), (v0, ()), (v1, ()), (()), (v2 + 1, ()), ()), (v3, (v4, ()), v5, ()))))
    (some (Sum.inr ((((()), (()), (v0, ()), (v1, ()), ()), (v3, (v4, ()), ())))))

noncomputable def law_TableTree_L7 (rec : (((Unit) × (Unit) × (Int × Unit) × (Int × Unit) × Unit) × (List Pf × (Ad × Unit) × Unit)) → Option ((((Bool × Unit) × Unit) × (List Pf × Unit)) ⊕ (((Unit) × (Unit) × (Int × Unit) × Unit) × (List Pf × (Ad × Unit) × Unit)))) (x : (((Unit) × (Unit) × (Int × Unit) × (Int × Unit) × Unit) × (List Pf × (Ad × Unit) × Unit))) : Option ((((Bool × Unit) × Unit) × (List Pf × Unit)) ⊕ (((Unit) × (Unit) × (Int × Unit) × Unit) × (List Pf × (Ad × Unit) × Unit))) :=
  let v0 := x.1.2.2.1.1
  let v1 := x.1.2.2.2.1.1
  let v2 := x.2.1
  let v3 := x.2.2.1.1
  br (decide (v1 < lenL v2))
    ((table_Below_t v2 v1).bind fun y1 =>
    br (!decide (y1.2.1 = 0))
      (some (Sum.inl (((false, ()), ()), (v2, ()))))
      (req (i64ok (v0 + (lenL y1.1))) <|
      (loopN law_TableTree_L14 FUEL (((()), (()), (v0 + (lenL y1.1), ()), (v1, ()), (()), (0, ()), ()), (v2, (v3, ()), y1.1, ()))).bind fun y2 =>
      sumC y2 (fun y3 =>
        some (Sum.inl (((y3.1.1.1, ()), ()), (y3.2.1, ())))) (fun y4 =>
        (table_Above_t y4.2.1 y4.1.2.2.2.1.1).bind fun y5 =>
        br (decide (y5.2.1 = 5))
          (req (i64ok (y4.1.2.2.1.1 + 1)) <|
          req (i64ok (y4.1.2.2.2.1.1 + 1)) <|
          rec (((()), (()), (y4.1.2.2.1.1 + 1, ()), (y4.1.2.2.2.1.1 + 1, ()), ()), (y4.2.1, (y4.2.2.1.1, ()), ())))
          (req (i64ok (y4.1.2.2.2.1.1 + 1)) <|
          rec (((()), (()), (y4.1.2.2.1.1, ()), (y4.1.2.2.2.1.1 + 1, ()), ()), (y4.2.1, (y4.2.2.1.1, ()), ()))))))
    (some (Sum.inr ((((()), (()), (v0, ()), ()), (v2, (v3, ()), ())))))

noncomputable def law_TableTree_L29 (rec : (((Unit) × (Unit) × (Int × Unit) × (Int × Unit) × Unit) × (List Pf × (Ad × Unit) × Unit)) → Option ((((Bool × Unit) × Unit) × (List Pf × Unit)) ⊕ ((Unit) × (List Pf × Unit)))) (x : (((Unit) × (Unit) × (Int × Unit) × (Int × Unit) × Unit) × (List Pf × (Ad × Unit) × Unit))) : Option ((((Bool × Unit) × Unit) × (List Pf × Unit)) ⊕ ((Unit) × (List Pf × Unit))) :=
  let v0 := x.1.2.2.1.1
  let v1 := x.1.2.2.2.1.1
  let v2 := x.2.1
  let v3 := x.2.2.1.1
  br (decide (v1 < lenL v2))
    (req (inRange v1 (lenL v2)) <|
    (geti v2 v1).bind fun p1 =>
    (R_Host_t v3).bind fun y2 =>
    (prefix_Has_t p1 y2.1).bind fun y3 =>
    req (inRange v1 (lenL v2)) <|
    (geti v2 v1).bind fun p4 =>
    req (inRange v0 (lenL v2)) <|
    (geti v2 v0).bind fun p5 =>
    (prefix_Has_t p4 p5).bind fun y6 =>
    (br (!decide (y3.2.1 = 0))
        (some true)
        (some (!decide (y6.2.1 = 0)))).bind fun c7 =>
    (br c7
        (some true)
        (br y3.1
          (some (!y6.1))
          (some false))).bind fun c8 =>
    br c8
      (some (Sum.inl (((false, ()), ()), (v2, ()))))
      (req (i64ok (v1 + 1)) <|
      rec (((()), (()), (v0, ()), (v1 + 1, ()), ()), (v2, (v3, ()), ()))))
    (some (Sum.inr (((()), (v2, ())))))

/-- yardarm/yardarmlaw.TableTree -/
noncomputable def law_TableTree_t (a0 : List Pf) (a1 : Ad) : Option (Bool × Unit) :=
  law_tableBegun_t.bind fun y1 =>
  (br (!y1.1)
      (some true)
      (law_prefixBegun_t.bind fun y2 =>
      some (!y2.1))).bind fun c2 =>
  br c2
    (some (false, ()))
    ((table_Check_t a0).bind fun y3 =>
    br (!decide (y3.1 = 0))
      (some (true, ()))
      ((loopN law_TableTree_L7 FUEL (((()), (()), (0, ()), (0, ()), ()), (a0, (a1, ()), ()))).bind fun y4 =>
      sumC y4 (fun y5 =>
        some (y5.1.1.1, ())) (fun y6 =>
        br (!decide (y6.1.2.2.1.1 = lenL y6.2.1))
          (some (false, ()))
          ((table_Find_t y6.2.1 y6.2.2.1.1).bind fun y7 =>
          br (!decide (y7.2.1 = 0))
            (some (decide (y7.1 = 0), ()))
            ((loopN law_TableTree_L29 FUEL (((()), (()), (y7.1, ()), (0, ()), ()), (y6.2.1, (y6.2.2.1.1, ()), ()))).bind fun y8 =>
            sumC y8 (fun y9 =>
              some (y9.1.1.1, ())) (fun y10 =>
              some (true, ())))))))

/-- yardarm/yardarmlaw.TableMore -/
noncomputable def law_TableMore_t (a0 : List Pf) (a1 : Ad) (a2 : Int) : Option (Bool × Unit) :=
  law_tableBegun_t.bind fun y1 =>
  (br (!y1.1)
      (some true)
      (law_prefixBegun_t.bind fun y2 =>
      some (!y2.1))).bind fun c2 =>
  br c2
    (some (false, ()))
    ((table_Find_t a0 a1).bind fun y3 =>
    (br (!decide (y3.2.1 = 0))
        (some (!decide (y3.2.1 = 5)))
        (some false)).bind fun c4 =>
    (br c4
        (some true)
        (some (decide (a2 < 0)))).bind fun c5 =>
    (br c5
        (some true)
        (some (decide (a2 ≥ lenL a0)))).bind fun c6 =>
    br c6
      (some (true, ()))
      (req (i64ok (a2 + 1)) <|
      both
        (both
          (req ((decide (0 ≤ a2)) && (decide (a2 ≤ lenL a0))) <|
          both
            (req (room (lenL ([] : List Pf)) (lenL (subL a0 0 a2))) <|
            req (((decide (0 ≤ a2 + 1)) && (decide (a2 + 1 ≤ lenL a0))) && (decide (lenL a0 ≤ lenL a0))) <|
            req (room (lenL (([] : List Pf) ++ (subL a0 0 a2))) (lenL (subL a0 (a2 + 1) (lenL a0)))) <|
            (table_Find_t ((([] : List Pf) ++ (subL a0 0 a2)) ++ (subL a0 (a2 + 1) (lenL a0))) a1).bind fun y7 =>
            br (decide (y3.2.1 = 5))
              (some (decide (y7.2.1 = 5), ()))
              (br (!decide (a2 = y3.1))
                ((br (decide (y7.2.1 = 0))
                    (req (inRange y7.1 (lenL ((([] : List Pf) ++ (subL a0 0 a2)) ++ (subL a0 (a2 + 1) (lenL a0))))) <|
                    (geti ((([] : List Pf) ++ (subL a0 0 a2)) ++ (subL a0 (a2 + 1) (lenL a0))) y7.1).bind fun p8 =>
                    req (inRange y3.1 (lenL a0)) <|
                    (geti a0 y3.1).bind fun p9 =>
                    some (eqPf p8 p9))
                    (some false)).bind fun c8 =>
                some (c8, ()))
                ((table_Above_t a0 y3.1).bind fun y8 =>
                (br (decide (y7.2.1 = y8.2.1))
                    (br (!decide (y7.2.1 = 0))
                      (some true)
                      (req (inRange y7.1 (lenL ((([] : List Pf) ++ (subL a0 0 a2)) ++ (subL a0 (a2 + 1) (lenL a0))))) <|
                      (geti ((([] : List Pf) ++ (subL a0 0 a2)) ++ (subL a0 (a2 + 1) (lenL a0))) y7.1).bind fun p9 =>
                      req (inRange y8.1 (lenL a0)) <|
                      (geti a0 y8.1).bind fun p10 =>
                      some (eqPf p9 p10)))
                    (some false)).bind fun c9 =>
                some (c9, ()))))
            (req (((decide (0 ≤ a2 + 1)) && (decide (a2 + 1 ≤ lenL a0))) && (decide (lenL a0 ≤ lenL a0))) <|
            req (room (lenL ([] : List Pf)) (lenL (subL a0 0 a2))) <|
            req (room (lenL (([] : List Pf) ++ (subL a0 0 a2))) (lenL (subL a0 (a2 + 1) (lenL a0)))) <|
            (table_Find_t ((([] : List Pf) ++ (subL a0 0 a2)) ++ (subL a0 (a2 + 1) (lenL a0))) a1).bind fun y7 =>
            br (decide (y3.2.1 = 5))
              (some (decide (y7.2.1 = 5), ()))
              (br (!decide (a2 = y3.1))
                ((br (decide (y7.2.1 = 0))
                    (req (inRange y7.1 (lenL ((([] : List Pf) ++ (subL a0 0 a2)) ++ (subL a0 (a2 + 1) (lenL a0))))) <|
                    (geti ((([] : List Pf) ++ (subL a0 0 a2)) ++ (subL a0 (a2 + 1) (lenL a0))) y7.1).bind fun p8 =>
                    req (inRange y3.1 (lenL a0)) <|
                    (geti a0 y3.1).bind fun p9 =>
                    some (eqPf p8 p9))
                    (some false)).bind fun c8 =>
                some (c8, ()))
                ((table_Above_t a0 y3.1).bind fun y8 =>
                (br (decide (y7.2.1 = y8.2.1))
                    (br (!decide (y7.2.1 = 0))
                      (some true)
                      (req (inRange y7.1 (lenL ((([] : List Pf) ++ (subL a0 0 a2)) ++ (subL a0 (a2 + 1) (lenL a0))))) <|
                      (geti ((([] : List Pf) ++ (subL a0 0 a2)) ++ (subL a0 (a2 + 1) (lenL a0))) y7.1).bind fun p9 =>
                      req (inRange y8.1 (lenL a0)) <|
                      (geti a0 y8.1).bind fun p10 =>
                      some (eqPf p9 p10)))
                    (some false)).bind fun c9 =>
                some (c9, ())))))
          (req (((decide (0 ≤ a2 + 1)) && (decide (a2 + 1 ≤ lenL a0))) && (decide (lenL a0 ≤ lenL a0))) <|
          req ((decide (0 ≤ a2)) && (decide (a2 ≤ lenL a0))) <|
          req (room (lenL ([] : List Pf)) (lenL (subL a0 0 a2))) <|
          req (room (lenL (([] : List Pf) ++ (subL a0 0 a2))) (lenL (subL a0 (a2 + 1) (lenL a0)))) <|
          (table_Find_t ((([] : List Pf) ++ (subL a0 0 a2)) ++ (subL a0 (a2 + 1) (lenL a0))) a1).bind fun y7 =>
          br (decide (y3.2.1 = 5))
            (some (decide (y7.2.1 = 5), ()))
            (br (!decide (a2 = y3.1))
              ((br (decide (y7.2.1 = 0))
                  (req (inRange y7.1 (lenL ((([] : List Pf) ++ (subL a0 0 a2)) ++ (subL a0 (a2 + 1) (lenL a0))))) <|
                  (geti ((([] : List Pf) ++ (subL a0 0 a2)) ++ (subL a0 (a2 + 1) (lenL a0))) y7.1).bind fun p8 =>
                  req (inRange y3.1 (lenL a0)) <|
                  (geti a0 y3.1).bind fun p9 =>
                  some (eqPf p8 p9))
                  (some false)).bind fun c8 =>
              some (c8, ()))
              ((table_Above_t a0 y3.1).bind fun y8 =>
              (br (decide (y7.2.1 = y8.2.1))
                  (br (!decide (y7.2.1 = 0))
                    (some true)
                    (req (inRange y7.1 (lenL ((([] : List Pf) ++ (subL a0 0 a2)) ++ (subL a0 (a2 + 1) (lenL a0))))) <|
                    (geti ((([] : List Pf) ++ (subL a0 0 a2)) ++ (subL a0 (a2 + 1) (lenL a0))) y7.1).bind fun p9 =>
                    req (inRange y8.1 (lenL a0)) <|
                    (geti a0 y8.1).bind fun p10 =>
                    some (eqPf p9 p10)))
                  (some false)).bind fun c9 =>
              some (c9, ())))))
        (both
          (req ((decide (0 ≤ a2)) && (decide (a2 ≤ lenL a0))) <|
          both
            (both
              (req (room (lenL ([] : List Pf)) (lenL (subL a0 0 a2))) <|
              req (((decide (0 ≤ a2 + 1)) && (decide (a2 + 1 ≤ lenL a0))) && (decide (lenL a0 ≤ lenL a0))) <|
              req (room (lenL (([] : List Pf) ++ (subL a0 0 a2))) (lenL (subL a0 (a2 + 1) (lenL a0)))) <|
              (table_Find_t ((([] : List Pf) ++ (subL a0 0 a2)) ++ (subL a0 (a2 + 1) (lenL a0))) a1).bind fun y7 =>
              br (decide (y3.2.1 = 5))
                (some (decide (y7.2.1 = 5), ()))
                (br (!decide (a2 = y3.1))
                  ((br (decide (y7.2.1 = 0))
                      (req (inRange y7.1 (lenL ((([] : List Pf) ++ (subL a0 0 a2)) ++ (subL a0 (a2 + 1) (lenL a0))))) <|
                      (geti ((([] : List Pf) ++ (subL a0 0 a2)) ++ (subL a0 (a2 + 1) (lenL a0))) y7.1).bind fun p8 =>
                      req (inRange y3.1 (lenL a0)) <|
                      (geti a0 y3.1).bind fun p9 =>
                      some (eqPf p8 p9))
                      (some false)).bind fun c8 =>
                  some (c8, ()))
                  ((table_Above_t a0 y3.1).bind fun y8 =>
                  (br (decide (y7.2.1 = y8.2.1))
                      (br (!decide (y7.2.1 = 0))
                        (some true)
                        (req (inRange y7.1 (lenL ((([] : List Pf) ++ (subL a0 0 a2)) ++ (subL a0 (a2 + 1) (lenL a0))))) <|
                        (geti ((([] : List Pf) ++ (subL a0 0 a2)) ++ (subL a0 (a2 + 1) (lenL a0))) y7.1).bind fun p9 =>
                        req (inRange y8.1 (lenL a0)) <|
                        (geti a0 y8.1).bind fun p10 =>
                        some (eqPf p9 p10)))
                      (some false)).bind fun c9 =>
                  some (c9, ()))))
              (req (((decide (0 ≤ a2 + 1)) && (decide (a2 + 1 ≤ lenL a0))) && (decide (lenL a0 ≤ lenL a0))) <|
              req (room (lenL ([] : List Pf)) (lenL (subL a0 0 a2))) <|
              req (room (lenL (([] : List Pf) ++ (subL a0 0 a2))) (lenL (subL a0 (a2 + 1) (lenL a0)))) <|
              (table_Find_t ((([] : List Pf) ++ (subL a0 0 a2)) ++ (subL a0 (a2 + 1) (lenL a0))) a1).bind fun y7 =>
              br (decide (y3.2.1 = 5))
                (some (decide (y7.2.1 = 5), ()))
                (br (!decide (a2 = y3.1))
                  ((br (decide (y7.2.1 = 0))
                      (req (inRange y7.1 (lenL ((([] : List Pf) ++ (subL a0 0 a2)) ++ (subL a0 (a2 + 1) (lenL a0))))) <|
                      (geti ((([] : List Pf) ++ (subL a0 0 a2)) ++ (subL a0 (a2 + 1) (lenL a0))) y7.1).bind fun p8 =>
                      req (inRange y3.1 (lenL a0)) <|
                      (geti a0 y3.1).bind fun p9 =>
                      some (eqPf p8 p9))
                      (some false)).bind fun c8 =>
                  some (c8, ()))
                  ((table_Above_t a0 y3.1).bind fun y8 =>
                  (br (decide (y7.2.1 = y8.2.1))
                      (br (!decide (y7.2.1 = 0))
                        (some true)
                        (req (inRange y7.1 (lenL ((([] : List Pf) ++ (subL a0 0 a2)) ++ (subL a0 (a2 + 1) (lenL a0))))) <|
                        (geti ((([] : List Pf) ++ (subL a0 0 a2)) ++ (subL a0 (a2 + 1) (lenL a0))) y7.1).bind fun p9 =>
                        req (inRange y8.1 (lenL a0)) <|
                        (geti a0 y8.1).bind fun p10 =>
                        some (eqPf p9 p10)))
                      (some false)).bind fun c9 =>
                  some (c9, ())))))
            (req (((decide (0 ≤ a2 + 1)) && (decide (a2 + 1 ≤ lenL a0))) && (decide (lenL a0 ≤ lenL a0))) <|
            req (room (lenL ([] : List Pf)) (lenL (subL a0 0 a2))) <|
            req (room (lenL (([] : List Pf) ++ (subL a0 0 a2))) (lenL (subL a0 (a2 + 1) (lenL a0)))) <|
            (table_Find_t ((([] : List Pf) ++ (subL a0 0 a2)) ++ (subL a0 (a2 + 1) (lenL a0))) a1).bind fun y7 =>
            br (decide (y3.2.1 = 5))
              (some (decide (y7.2.1 = 5), ()))
              (br (!decide (a2 = y3.1))
                ((br (decide (y7.2.1 = 0))
                    (req (inRange y7.1 (lenL ((([] : List Pf) ++ (subL a0 0 a2)) ++ (subL a0 (a2 + 1) (lenL a0))))) <|
                    (geti ((([] : List Pf) ++ (subL a0 0 a2)) ++ (subL a0 (a2 + 1) (lenL a0))) y7.1).bind fun p8 =>
                    req (inRange y3.1 (lenL a0)) <|
                    (geti a0 y3.1).bind fun p9 =>
                    some (eqPf p8 p9))
                    (some false)).bind fun c8 =>
                some (c8, ()))
                ((table_Above_t a0 y3.1).bind fun y8 =>
                (br (decide (y7.2.1 = y8.2.1))
                    (br (!decide (y7.2.1 = 0))
                      (some true)
                      (req (inRange y7.1 (lenL ((([] : List Pf) ++ (subL a0 0 a2)) ++ (subL a0 (a2 + 1) (lenL a0))))) <|
                      (geti ((([] : List Pf) ++ (subL a0 0 a2)) ++ (subL a0 (a2 + 1) (lenL a0))) y7.1).bind fun p9 =>
                      req (inRange y8.1 (lenL a0)) <|
                      (geti a0 y8.1).bind fun p10 =>
                      some (eqPf p9 p10)))
                    (some false)).bind fun c9 =>
                some (c9, ())))))
          (req (((decide (0 ≤ a2 + 1)) && (decide (a2 + 1 ≤ lenL a0))) && (decide (lenL a0 ≤ lenL a0))) <|
          dup 1 <|
          req ((decide (0 ≤ a2)) && (decide (a2 ≤ lenL a0))) <|
          req (room (lenL ([] : List Pf)) (lenL (subL a0 0 a2))) <|
          req (room (lenL (([] : List Pf) ++ (subL a0 0 a2))) (lenL (subL a0 (a2 + 1) (lenL a0)))) <|
          (table_Find_t ((([] : List Pf) ++ (subL a0 0 a2)) ++ (subL a0 (a2 + 1) (lenL a0))) a1).bind fun y7 =>
          br (decide (y3.2.1 = 5))
            (some (decide (y7.2.1 = 5), ()))
            (br (!decide (a2 = y3.1))
              ((br (decide (y7.2.1 = 0))
                  (req (inRange y7.1 (lenL ((([] : List Pf) ++ (subL a0 0 a2)) ++ (subL a0 (a2 + 1) (lenL a0))))) <|
                  (geti ((([] : List Pf) ++ (subL a0 0 a2)) ++ (subL a0 (a2 + 1) (lenL a0))) y7.1).bind fun p8 =>
                  req (inRange y3.1 (lenL a0)) <|
                  (geti a0 y3.1).bind fun p9 =>
                  some (eqPf p8 p9))
                  (some false)).bind fun c8 =>
              some (c8, ()))
              ((table_Above_t a0 y3.1).bind fun y8 =>
              (br (decide (y7.2.1 = y8.2.1))
                  (br (!decide (y7.2.1 = 0))
                    (some true)
                    (req (inRange y7.1 (lenL ((([] : List Pf) ++ (subL a0 0 a2)) ++ (subL a0 (a2 + 1) (lenL a0))))) <|
                    (geti ((([] : List Pf) ++ (subL a0 0 a2)) ++ (subL a0 (a2 + 1) (lenL a0))) y7.1).bind fun p9 =>
                    req (inRange y8.1 (lenL a0)) <|
                    (geti a0 y8.1).bind fun p10 =>
                    some (eqPf p9 p10)))
                  (some false)).bind fun c9 =>
              some (c9, ())))))))

end Go.Ma
