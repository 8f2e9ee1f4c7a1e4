/-
  table.Below, as a plain form: made by hand: the machine knows no maps.
-/
import Derived.Test.YtaicmdnpjgijjaaGreatDoorPl
namespace Go.Ma
open Go

/-- Which of the first k stand below place n. -/
noncomputable def belowTo (l : List Pf) (n : Int) : Nat → Option (List Int)
  | 0 => some []
  | k + 1 => (belowTo l n k).bind fun r => (table_above_t l (k : Int)).bind fun y => req (i64ok y.1) <| some (if y.1 = n then r ++ [(k : Int)] else r)
/-- yardarm/table.Below -/
noncomputable def table_Below_t (l : List Pf) (n : Int) : Option ((List Int) × Int × Unit) :=
  (table_ready_t l n).bind fun y1 =>
  br (!decide (y1.1 = 0))
    (some ([], y1.1, ()))
    (req (decide (l.length ≤ 12) && (decide (0 ≤ n) && decide (n ≤ 12)))
      ((belowTo l n l.length).bind fun r => some (r, 0, ())))
end Go.Ma
