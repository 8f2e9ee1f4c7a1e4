/-
  The plain forms of the program's functions, as the machine runs them. Written by a program of mine.
-/
import Derived.Test.YtgfcgbhocdlleaaMaH
namespace Go.Ma
open Go
/-- yardarm/log.epoch -/
noncomputable def log_epoch_t (a0 : Int) : Option (Bool × Unit) :=
  (br (decide (a0 ≥ 1))
      (some (decide (a0 ≤ 999)))
      (some false)).bind fun c1 =>
  some (c1, ())

/-- yardarm/state.within -/
noncomputable def state_within_t (a0 : Int) (a1 : Int) (a2 : Int) : Option (Bool × Unit) :=
  (br (decide (a0 ≥ a1))
      (some (decide (a0 ≤ a2)))
      (some false)).bind fun c1 =>
  some (c1, ())

/-- yardarm/state.extra -/
noncomputable def state_extra_t (a0 : Oq) : Option (Bool × Unit) :=
  (br (!decide (a0.kind = 1))
      (some (!(eqPf a0.pf (⟨(⟨false, 0, 0⟩ : Ad), 0⟩ : Pf))))
      (some false)).bind fun c1 =>
  (br c1
      (some true)
      (br (!decide (a0.kind = 2))
        (some (!(eqAd a0.ad (⟨false, 0, 0⟩ : Ad))))
        (some false))).bind fun c2 =>
  (br c2
      (some true)
      (br (!decide (a0.kind = 3))
        (br (!decide (a0.kind = 4))
          (some (strcmp .neq a0.who (ByteArray.empty)))
          (some false))
        (some false))).bind fun c3 =>
  (br c3
      (some true)
      (br (!decide (a0.kind = 3))
        (some (!decide (a0.of_ = 0)))
        (some false))).bind fun c4 =>
  (br c4
      (some true)
      (br (!decide (a0.kind = 3))
        (br (!decide (a0.kind = 5))
          (some (!decide (a0.n = 0)))
          (some false))
        (some false))).bind fun c5 =>
  some (c5, ())

/-- yardarm/addr.Check -/
noncomputable def addr_Check_t (a0 : Ad) : Option (Int × Unit) :=
  (br (!a0.v6)
      (br (!decide (a0.hi = 0))
        (some true)
        (some (decide (a0.lo ≥ 4294967296))))
      (some false)).bind fun c1 =>
  br c1
    (some (3, ()))
    (some (0, ()))

/-- yardarm/prefix.Wide -/
noncomputable def prefix_Wide_t (a0 : Ad) : Option (Int × Unit) :=
  br a0.v6
    (some (128, ()))
    (some (32, ()))

/-- yardarm/prefix.mask -/
noncomputable def prefix_mask_t (a0 : Ad) (a1 : Int) : Option (Ad × Unit) :=
  (prefix_Wide_t a0).bind fun y1 =>
  req (i64ok (y1.1 - a1)) <|
  br (decide (y1.1 - a1 < 64))
    (req (decide (0 ≤ y1.1 - a1)) <|
    br (decide (y1.1 - a1 > 64))
      (br (decide (y1.1 - a1 < 128))
        (req (i64ok ((y1.1 - a1) - 64)) <|
        req (decide (0 ≤ (y1.1 - a1) - 64)) <|
        some ((⟨a0.v6, aop .sub .u64 (aop .shl .u64 1 ((y1.1 - a1) - 64)) 1, aop .sub .u64 (aop .shl .u64 1 (y1.1 - a1)) 1⟩ : Ad), ()))
        (some ((⟨a0.v6, 18446744073709551615, aop .sub .u64 (aop .shl .u64 1 (y1.1 - a1)) 1⟩ : Ad), ())))
      (some ((⟨a0.v6, 0, aop .sub .u64 (aop .shl .u64 1 (y1.1 - a1)) 1⟩ : Ad), ())))
    (br (decide (y1.1 - a1 > 64))
      (br (decide (y1.1 - a1 < 128))
        (req (i64ok ((y1.1 - a1) - 64)) <|
        req (decide (0 ≤ (y1.1 - a1) - 64)) <|
        some ((⟨a0.v6, aop .sub .u64 (aop .shl .u64 1 ((y1.1 - a1) - 64)) 1, 18446744073709551615⟩ : Ad), ()))
        (some ((⟨a0.v6, 18446744073709551615, 18446744073709551615⟩ : Ad), ())))
      (some ((⟨a0.v6, 0, 18446744073709551615⟩ : Ad), ())))

/-- yardarm/prefix.Cut -/
noncomputable def prefix_Cut_t (a0 : Ad) (a1 : Int) : Option (Ad × Unit) :=
  (prefix_mask_t a0 a1).bind fun y1 =>
  some ((⟨a0.v6, aop .andNot .u64 a0.hi y1.1.hi, aop .andNot .u64 a0.lo y1.1.lo⟩ : Ad), ())

/-- yardarm/prefix.Check -/
noncomputable def prefix_Check_t (a0 : Pf) : Option (Int × Unit) :=
  (addr_Check_t a0.ad).bind fun y1 =>
  br (!decide (y1.1 = 0))
    (some (y1.1, ()))
    ((br (decide (a0.bits < 0))
        (some true)
        ((prefix_Wide_t a0.ad).bind fun y2 =>
        some (decide (a0.bits > y2.1)))).bind fun c2 =>
    br c2
      (some (3, ()))
      ((prefix_Cut_t a0.ad a0.bits).bind fun y3 =>
      br (!(eqAd y3.1 a0.ad))
        (some (4, ()))
        (some (0, ()))))

/-- yardarm/lease.Narrow -/
noncomputable def lease_Narrow_t (a0 : Pf) : Option (Bool × Unit) :=
  (prefix_Wide_t a0.ad).bind fun y1 =>
  req (i64ok (y1.1 - a0.bits)) <|
  some (decide (y1.1 - a0.bits ≤ 4), ())

/-- yardarm/lease.within -/
noncomputable def lease_within_t (a0 : Int) (a1 : Int) (a2 : Int) : Option (Bool × Unit) :=
  (br (decide (a0 ≥ a1))
      (some (decide (a0 ≤ a2)))
      (some false)).bind fun c1 =>
  some (c1, ())

noncomputable def lease_Who_L2 (rec : (((ByteArray × Unit) × (Int × Unit) × (Int × Unit) × Unit) × (Unit)) → Option ((((Bool × Unit) × Unit) × (Unit)) ⊕ (((ByteArray × Unit) × Unit) × (Unit)))) (x : (((ByteArray × Unit) × (Int × Unit) × (Int × Unit) × Unit) × (Unit))) : Option ((((Bool × Unit) × Unit) × (Unit)) ⊕ (((ByteArray × Unit) × Unit) × (Unit))) :=
  let v0 := x.1.1.1
  let v1 := x.1.2.1.1
  let v2 := x.1.2.2.1.1
  br (decide (v2 < v1))
    (req (inRange v2 (lenS v0)) <|
    (br (decide (byteAt v0 v2 ≥ 97))
        (some (decide (byteAt v0 v2 ≤ 122)))
        (some false)).bind fun c1 =>
    (br (!c1)
        (br (decide (byteAt v0 v2 ≥ 48))
          (some (!(decide (byteAt v0 v2 ≤ 57))))
          (some true))
        (some false)).bind fun c2 =>
    br c2
      (some (Sum.inl (((false, ()), ()), (()))))
      (req (i64ok (v2 + 1)) <|
      rec (((v0, ()), (v1, ()), (v2 + 1, ()), ()), (()))))
    (some (Sum.inr ((((v0, ()), ()), (())))))

/-- yardarm/lease.Who -/
noncomputable def lease_Who_t (a0 : ByteArray) : Option (Bool × Unit) :=
  (loopN lease_Who_L2 FUEL (((a0, ()), (lenS a0, ()), (0, ()), ()), (()))).bind fun y1 =>
  sumC y1 (fun y2 =>
    some (y2.1.1.1, ())) (fun y3 =>
    (lease_within_t (lenS y3.1.1.1) 1 8).bind fun y4 =>
    some (y4.1, ()))

/-- yardarm/state.Form -/
noncomputable def state_Form_t (a0 : Oq) : Option (Int × Unit) :=
  (state_within_t a0.kind 1 5).bind fun y1 =>
  br (!y1.1)
    (some (7, ()))
    ((state_extra_t a0).bind fun y2 =>
    br y2.1
      (some (1, ()))
      (br (decide (a0.kind = 1))
        ((prefix_Check_t a0.pf).bind fun y3 =>
        br (!decide (y3.1 = 0))
          (some (y3.1, ()))
          ((lease_Narrow_t a0.pf).bind fun y4 =>
          br (!y4.1)
            (some (2, ()))
            (some (0, ()))))
        (br (decide (a0.kind = 2))
          ((addr_Check_t a0.ad).bind fun y3 =>
          some (y3.1, ()))
          (br (decide (a0.kind = 3))
            (br (decide (a0.kind = 3))
              ((lease_Who_t a0.who).bind fun y3 =>
              br (!y3.1)
                (some (1, ()))
                ((br (decide (a0.kind = 3))
                    ((state_within_t a0.of_ 0 2).bind fun y4 =>
                    br (!y4.1)
                      (some true)
                      ((state_within_t a0.n 1 500).bind fun y5 =>
                      some (!y5.1)))
                    (some false)).bind fun c4 =>
                br c4
                  (some (3, ()))
                  (some (0, ()))))
              (br (decide (a0.kind = 5))
                ((state_within_t a0.n 0 9999).bind fun y3 =>
                br (!y3.1)
                  (some (3, ()))
                  (some (0, ())))
                (some (0, ()))))
            (br (decide (a0.kind = 4))
              ((lease_Who_t a0.who).bind fun y3 =>
              br (!y3.1)
                (some (1, ()))
                ((br (decide (a0.kind = 3))
                    ((state_within_t a0.of_ 0 2).bind fun y4 =>
                    br (!y4.1)
                      (some true)
                      ((state_within_t a0.n 1 500).bind fun y5 =>
                      some (!y5.1)))
                    (some false)).bind fun c4 =>
                br c4
                  (some (3, ()))
                  (some (0, ()))))
              (br (decide (a0.kind = 5))
                ((state_within_t a0.n 0 9999).bind fun y3 =>
                br (!y3.1)
                  (some (3, ()))
                  (some (0, ())))
                (some (0, ()))))))))

noncomputable def log_Check_L4 (rec : (((Unit) × (Unit) × (Int × Unit) × (Int × Unit) × Unit) × (List En × Unit)) → Option ((((Int × Unit) × Unit) × (List En × Unit)) ⊕ ((Unit) × (List En × Unit)))) (x : (((Unit) × (Unit) × (Int × Unit) × (Int × Unit) × Unit) × (List En × Unit))) : Option ((((Int × Unit) × Unit) × (List En × Unit)) ⊕ ((Unit) × (List En × Unit))) :=
  let v0 := x.1.2.2.1.1
  let v1 := x.1.2.2.2.1.1
  let v2 := x.2.1
  br (decide (v1 < v0))
    (req (inRange v1 (lenL v2)) <|
    (geti v2 v1).bind fun p1 =>
    req (i64ok (v1 + 1)) <|
    br (!decide (p1.num = v1 + 1))
      (some (Sum.inl (((4, ()), ()), (v2, ()))))
      ((log_epoch_t p1.epoch).bind fun y2 =>
      br (!y2.1)
        (some (Sum.inl (((3, ()), ()), (v2, ()))))
        ((br (decide (v1 > 0))
            (req (i64ok (v1 - 1)) <|
            req (inRange (v1 - 1) (lenL v2)) <|
            req (inRange (v1 - 1) (lenL v2)) <|
            (geti v2 (v1 - 1)).bind fun p3 =>
            some (decide (p1.epoch < p3.epoch)))
            (some false)).bind fun c3 =>
        br c3
          (some (Sum.inl (((4, ()), ()), (v2, ()))))
          ((state_Form_t p1.op).bind fun y4 =>
          br (!decide (y4.1 = 0))
            (some (Sum.inl (((y4.1, ()), ()), (v2, ()))))
            (req (i64ok (v1 + 1)) <|
            rec (((()), (()), (v0, ()), (v1 + 1, ()), ()), (v2, ())))))))
    (some (Sum.inr (((()), (v2, ())))))

/-- yardarm/log.Check -/
noncomputable def log_Check_t (a0 : List En) : Option (Int × Unit) :=
  br (decide (lenL a0 > 30))
    (some (2, ()))
    ((loopN log_Check_L4 FUEL (((()), (()), (lenL a0, ()), (0, ()), ()), (a0, ()))).bind fun y1 =>
    sumC y1 (fun y2 =>
      some (y2.1.1.1, ())) (fun y3 =>
      some (0, ())))

/-- yardarm/log.Is$1 -/
noncomputable def log_Is_1_t (a0 : En) (a1 : En) : Option (Bool × Unit) :=
  some (eqEn a0 a1, ())

noncomputable def log_Is_slices_EqualFunc___api_Entry___api_Entry_api_Entry_api_Entry__L4 (rec : (((Unit) × (Unit) × (Unit) × (Int × Unit) × (Int × Unit) × Unit) × (List En × List En × List En × Unit)) → Option ((((Bool × Unit) × Unit) × (List En × List En × List En × Unit)) ⊕ ((Unit) × (List En × List En × List En × Unit)))) (x : (((Unit) × (Unit) × (Unit) × (Int × Unit) × (Int × Unit) × Unit) × (List En × List En × List En × Unit))) : Option ((((Bool × Unit) × Unit) × (List En × List En × List En × Unit)) ⊕ ((Unit) × (List En × List En × List En × Unit))) :=
  let v0 := x.1.2.2.2.1.1
  let v1 := x.1.2.2.2.2.1.1
  let v2 := x.2.1
  let v3 := x.2.2.1
  let v4 := x.2.2.2.1
  br (decide (v1 < v0))
    (req (inRange v1 (lenL v2)) <|
    (geti v2 v1).bind fun p1 =>
    req (inRange v1 (lenL v4)) <|
    (geti v4 v1).bind fun p2 =>
    (log_Is_1_t p1 p2).bind fun y3 =>
    br (!y3.1)
      (some (Sum.inl (((false, ()), ()), (v2, v3, v4, ()))))
      (req (i64ok (v1 + 1)) <|
      rec (((()), (()), (()), (v0, ()), (v1 + 1, ()), ()), (v2, v3, v4, ()))))
    (some (Sum.inr (((()), (v2, v3, v4, ())))))

/-- yardarm/log.Is -/
noncomputable def log_Is_t (a0 : List En) (a1 : List En) : Option (Bool × Unit) :=
  br (decide (lenL a0 ≤ lenL a1))
    (req ((decide (0 ≤ lenL a0)) && (decide (lenL a0 ≤ lenL a1))) <|
    br (!decide (lenL a0 = lenL (subL a1 0 (lenL a0))))
      (some (false, ()))
      ((loopN log_Is_slices_EqualFunc___api_Entry___api_Entry_api_Entry_api_Entry__L4 FUEL (((()), (()), (()), (lenL a0, ()), (0, ()), ()), (a0, a1, subL a1 0 (lenL a0), ()))).bind fun y1 =>
      sumC y1 (fun y2 =>
        some (y2.1.1.1, ())) (fun y3 =>
        some (true, ()))))
    (some (false, ()))

/-- yardarm/log.Begins -/
noncomputable def log_Begins_t (a0 : List En) (a1 : List En) : Option (Bool × Int × Unit) :=
  (log_Check_t a0).bind fun y1 =>
  br (!decide (y1.1 = 0))
    (some (false, y1.1, ()))
    ((log_Check_t a1).bind fun y2 =>
    br (!decide (y2.1 = 0))
      (some (false, y2.1, ()))
      ((log_Is_t a0 a1).bind fun y3 =>
      some (y3.1, 0, ())))

/-- slices.Clone[[]yardarm/api.Entry,yardarm/api.Entry] -/
noncomputable def slices_Clone___api_Entry_api_Entry__t (a0 : List En) : Option ((List En) × Unit) :=
  nilB a0.length
    (some (([] : List En), ()))
    (req (room (lenL ([] : List En)) (lenL a0)) <|
    some (([] : List En) ++ a0, ()))

/-- yardarm/ship.Behind -/
noncomputable def ship_Behind_t (a0 : List En) (a1 : List En) (a2 : Int) : Option ((List En) × Unit) :=
  req (i64ok ((lenL a0) + a2)) <|
  req (((decide (0 ≤ lenL a0)) && (decide (lenL a0 ≤ minI (lenL a1) ((lenL a0) + a2)))) && (decide (minI (lenL a1) ((lenL a0) + a2) ≤ lenL a1))) <|
  (slices_Clone___api_Entry_api_Entry__t (subL a1 (lenL a0) (minI (lenL a1) ((lenL a0) + a2)))).bind fun y1 =>
  some (y1.1, ())

/-- yardarm/ship.Next -/
noncomputable def ship_Next_t (a0 : List En) (a1 : List En) (a2 : Int) : Option ((List En) × Int × Unit) :=
  (log_Begins_t a0 a1).bind fun y1 =>
  br (!decide (y1.2.1 = 0))
    (br (!decide (y1.2.1 = 0))
      (some (([] : List En), y1.2.1, ()))
      ((ship_Behind_t a0 a1 a2).bind fun y2 =>
      some (y2.1, 0, ())))
    (br (!y1.1)
      (some (([] : List En), 4, ()))
      ((br (decide (a2 < 0))
          (some true)
          (some (decide (a2 > 30)))).bind fun c2 =>
      br c2
        (some (([] : List En), 3, ()))
        (br (!decide (y1.2.1 = 0))
          (some (([] : List En), y1.2.1, ()))
          ((ship_Behind_t a0 a1 a2).bind fun y3 =>
          some (y3.1, 0, ())))))

/-- yardarm/yardarmref.between -/
noncomputable def R_between_t (a0 : Int) (a1 : Int) (a2 : Int) : Option (Bool × Unit) :=
  (br (decide (a0 ≥ a1))
      (some (decide (a0 ≤ a2)))
      (some false)).bind fun c1 =>
  some (c1, ())

/-- yardarm/yardarmref.CheckAddr -/
noncomputable def R_CheckAddr_t (a0 : Ad) : Option (Int × Unit) :=
  (br (!a0.v6)
      (br (decide (a0.hi > 0))
        (some true)
        (some (decide (a0.lo > 4294967295))))
      (some false)).bind fun c1 =>
  br c1
    (some (3, ()))
    (some (0, ()))

/-- yardarm/yardarmref.wide -/
noncomputable def R_wide_t (a0 : Ad) : Option (Int × Unit) :=
  br a0.v6
    (some (128, ()))
    (some (32, ()))

noncomputable def R_Bits_L3 (rec : (((Unit) × (Unit) × (Int × Unit) × Unit) × ((Ad × Unit) × List Int × Unit)) → Option (((Unit) × (Unit) × Unit) × ((Ad × Unit) × List Int × Unit))) (x : (((Unit) × (Unit) × (Int × Unit) × Unit) × ((Ad × Unit) × List Int × Unit))) : Option (((Unit) × (Unit) × Unit) × ((Ad × Unit) × List Int × Unit)) :=
  let v0 := x.1.2.2.1.1
  let v1 := x.2.1.1
  let v2 := x.2.2.1
  br (decide (v0 ≥ 0))
    (req (decide (0 ≤ v0)) <|
    req (room (lenL v2) (lenL ([convI .u8 (aop .add .u64 48 (aop .rem .u64 (aop .shr .u64 v1.hi v0) 2))] : List Int))) <|
    req (i64ok (v0 - 1)) <|
    rec (((()), (()), (v0 - 1, ()), ()), ((v1, ()), v2 ++ ([convI .u8 (aop .add .u64 48 (aop .rem .u64 (aop .shr .u64 v1.hi v0) 2))] : List Int), ())))
    (some (((()), (()), ()), ((v1, ()), v2, ())))

noncomputable def R_Bits_L7 (rec : (((Unit) × (Unit) × (Int × Unit) × Unit) × ((Ad × Unit) × List Int × Unit)) → Option (((Unit) × (Unit) × Unit) × ((Ad × Unit) × List Int × Unit))) (x : (((Unit) × (Unit) × (Int × Unit) × Unit) × ((Ad × Unit) × List Int × Unit))) : Option (((Unit) × (Unit) × Unit) × ((Ad × Unit) × List Int × Unit)) :=
  let v0 := x.1.2.2.1.1
  let v1 := x.2.1.1
  let v2 := x.2.2.1
  br (decide (v0 ≥ 0))
    (req (decide (0 ≤ v0)) <|
    req (room (lenL v2) (lenL ([convI .u8 (aop .add .u64 48 (aop .rem .u64 (aop .shr .u64 v1.lo v0) 2))] : List Int))) <|
    req (i64ok (v0 - 1)) <|
    rec (((()), (()), (v0 - 1, ()), ()), ((v1, ()), v2 ++ ([convI .u8 (aop .add .u64 48 (aop .rem .u64 (aop .shr .u64 v1.lo v0) 2))] : List Int), ())))
    (some (((()), (()), ()), ((v1, ()), v2, ())))

/-- yardarm/yardarmref.Bits -/
noncomputable def R_Bits_t (a0 : Ad) : Option (ByteArray × Unit) :=
  (loopN R_Bits_L3 FUEL (((()), (()), (63, ()), ()), ((a0, ()), ([] : List Int), ()))).bind fun y1 =>
  (loopN R_Bits_L7 FUEL (((()), (()), (63, ()), ()), ((y1.2.1.1, ()), y1.2.2.1, ()))).bind fun y2 =>
  br (!y2.2.1.1.v6)
    (req ((decide (96 ≤ lenL y2.2.2.1)) && (decide (lenL y2.2.2.1 ≤ lenL y2.2.2.1))) <|
    some (bytesOf (subL y2.2.2.1 96 (lenL y2.2.2.1)), ()))
    (some (bytesOf y2.2.2.1, ()))

noncomputable def R_CheckPrefix_L8 (rec : (((ByteArray × Unit) × (Int × Unit) × Unit) × (Unit)) → Option ((((Int × Unit) × Unit) × (Unit)) ⊕ ((Unit) × (Unit)))) (x : (((ByteArray × Unit) × (Int × Unit) × Unit) × (Unit))) : Option ((((Int × Unit) × Unit) × (Unit)) ⊕ ((Unit) × (Unit))) :=
  let v0 := x.1.1.1
  let v1 := x.1.2.1.1
  br (decide (v1 < lenS v0))
    (req (inRange v1 (lenS v0)) <|
    br (!decide (byteAt v0 v1 = 48))
      (some (Sum.inl (((4, ()), ()), (()))))
      (req (i64ok (v1 + 1)) <|
      rec (((v0, ()), (v1 + 1, ()), ()), (()))))
    (some (Sum.inr (((()), (())))))

/-- yardarm/yardarmref.CheckPrefix -/
noncomputable def R_CheckPrefix_t (a0 : Pf) : Option (Int × Unit) :=
  (R_CheckAddr_t a0.ad).bind fun y1 =>
  br (!decide (y1.1 = 0))
    (some (y1.1, ()))
    ((R_wide_t a0.ad).bind fun y2 =>
    (R_between_t a0.bits 0 y2.1).bind fun y3 =>
    br (!y3.1)
      (some (3, ()))
      ((R_Bits_t a0.ad).bind fun y4 =>
      (loopN R_CheckPrefix_L8 FUEL (((y4.1, ()), (a0.bits, ()), ()), (()))).bind fun y5 =>
      sumC y5 (fun y6 =>
        some (y6.1.1.1, ())) (fun y7 =>
        some (0, ()))))

/-- yardarm/yardarmref.IsNarrow -/
noncomputable def R_IsNarrow_t (a0 : Pf) : Option (Bool × Unit) :=
  (R_wide_t a0.ad).bind fun y1 =>
  req (i64ok (y1.1 - a0.bits)) <|
  some (decide (y1.1 - a0.bits ≤ 4), ())

noncomputable def R_IsWho_L2 (rec : (((ByteArray × Unit) × (Int × Unit) × Unit) × (Unit)) → Option ((((Bool × Unit) × Unit) × (Unit)) ⊕ (((ByteArray × Unit) × Unit) × (Unit)))) (x : (((ByteArray × Unit) × (Int × Unit) × Unit) × (Unit))) : Option ((((Bool × Unit) × Unit) × (Unit)) ⊕ (((ByteArray × Unit) × Unit) × (Unit))) :=
  let v0 := x.1.1.1
  let v1 := x.1.2.1.1
  br (decide (v1 < lenS v0))
    (req (inRange v1 (lenS v0)) <|
    (R_between_t (convI .i64 (byteAt v0 v1)) 97 122).bind fun y1 =>
    (br (!y1.1)
        (req (inRange v1 (lenS v0)) <|
        (R_between_t (convI .i64 (byteAt v0 v1)) 48 57).bind fun y2 =>
        some (!y2.1))
        (some false)).bind fun c2 =>
    br c2
      (some (Sum.inl (((false, ()), ()), (()))))
      (req (i64ok (v1 + 1)) <|
      rec (((v0, ()), (v1 + 1, ()), ()), (()))))
    (some (Sum.inr ((((v0, ()), ()), (())))))

/-- yardarm/yardarmref.IsWho -/
noncomputable def R_IsWho_t (a0 : ByteArray) : Option (Bool × Unit) :=
  (loopN R_IsWho_L2 FUEL (((a0, ()), (0, ()), ()), (()))).bind fun y1 =>
  sumC y1 (fun y2 =>
    some (y2.1.1.1, ())) (fun y3 =>
    (R_between_t (lenS y3.1.1.1) 1 8).bind fun y4 =>
    some (y4.1, ()))

/-- yardarm/yardarmref.CheckOp -/
noncomputable def R_CheckOp_t (a0 : Oq) : Option (Int × Unit) :=
  (R_between_t a0.kind 1 5).bind fun y1 =>
  br (!y1.1)
    (some (7, ()))
    ((br (!decide (a0.kind = 1))
        (some (!(eqPf a0.pf (⟨(⟨false, 0, 0⟩ : Ad), 0⟩ : Pf))))
        (some false)).bind fun c2 =>
    (br c2
        (some true)
        (br (!decide (a0.kind = 2))
          (some (!(eqAd a0.ad (⟨false, 0, 0⟩ : Ad))))
          (some false))).bind fun c3 =>
    (br c3
        (some true)
        (br (!decide (a0.kind = 3))
          (br (!decide (a0.kind = 4))
            (some (strcmp .neq a0.who (ByteArray.empty)))
            (some false))
          (some false))).bind fun c4 =>
    (br c4
        (some true)
        (br (!decide (a0.kind = 3))
          (some (!decide (a0.of_ = 0)))
          (some false))).bind fun c5 =>
    (br c5
        (some true)
        (br (!decide (a0.kind = 3))
          (br (!decide (a0.kind = 5))
            (some (!decide (a0.n = 0)))
            (some false))
          (some false))).bind fun c6 =>
    br c6
      (some (1, ()))
      (br (decide (a0.kind = 1))
        ((R_CheckPrefix_t a0.pf).bind fun y7 =>
        (br (decide (y7.1 = 0))
            ((R_IsNarrow_t a0.pf).bind fun y8 =>
            some (!y8.1))
            (some false)).bind fun c8 =>
        br c8
          (some (2, ()))
          (some (y7.1, ())))
        (br (decide (a0.kind = 2))
          ((R_CheckAddr_t a0.ad).bind fun y7 =>
          some (y7.1, ()))
          ((br (decide (a0.kind < 5))
              ((R_IsWho_t a0.who).bind fun y7 =>
              some (!y7.1))
              (some false)).bind fun c7 =>
          br c7
            (some (1, ()))
            ((br (decide (a0.kind = 3))
                ((R_between_t a0.of_ 0 2).bind fun y8 =>
                br (!y8.1)
                  (some true)
                  ((R_between_t a0.n 1 500).bind fun y9 =>
                  some (!y9.1)))
                (some false)).bind fun c8 =>
            br c8
              (some (3, ()))
              ((br (decide (a0.kind = 5))
                  ((R_between_t a0.n 0 9999).bind fun y9 =>
                  some (!y9.1))
                  (some false)).bind fun c9 =>
              br c9
                (some (3, ()))
                (some (0, ()))))))))

noncomputable def R_CheckLog_L4 (rec : (((Unit) × (Int × Unit) × Unit) × (List En × Unit)) → Option ((((Int × Unit) × Unit) × (List En × Unit)) ⊕ ((Unit) × (List En × Unit)))) (x : (((Unit) × (Int × Unit) × Unit) × (List En × Unit))) : Option ((((Int × Unit) × Unit) × (List En × Unit)) ⊕ ((Unit) × (List En × Unit))) :=
  let v0 := x.1.2.1.1
  let v1 := x.2.1
  br (decide (v0 < lenL v1))
    (req (inRange v0 (lenL v1)) <|
    req (inRange v0 (lenL v1)) <|
    (geti v1 v0).bind fun p1 =>
    req (i64ok (v0 + 1)) <|
    br (!decide (p1.num = v0 + 1))
      (some (Sum.inl (((4, ()), ()), (v1, ()))))
      (req (inRange v0 (lenL v1)) <|
      req (inRange v0 (lenL v1)) <|
      (geti v1 v0).bind fun p2 =>
      (R_between_t p2.epoch 1 999).bind fun y3 =>
      br (!y3.1)
        (some (Sum.inl (((3, ()), ()), (v1, ()))))
        ((br (decide (v0 > 0))
            (req (inRange v0 (lenL v1)) <|
            req (inRange v0 (lenL v1)) <|
            (geti v1 v0).bind fun p4 =>
            req (i64ok (v0 - 1)) <|
            req (inRange (v0 - 1) (lenL v1)) <|
            req (inRange (v0 - 1) (lenL v1)) <|
            (geti v1 (v0 - 1)).bind fun p5 =>
            some (decide (p4.epoch < p5.epoch)))
            (some false)).bind fun c4 =>
        br c4
          (some (Sum.inl (((4, ()), ()), (v1, ()))))
          (req (inRange v0 (lenL v1)) <|
          req (inRange v0 (lenL v1)) <|
          (geti v1 v0).bind fun p5 =>
          (R_CheckOp_t p5.op).bind fun y6 =>
          br (!decide (y6.1 = 0))
            (some (Sum.inl (((y6.1, ()), ()), (v1, ()))))
            (req (i64ok (v0 + 1)) <|
            rec (((()), (v0 + 1, ()), ()), (v1, ())))))))
    (some (Sum.inr (((()), (v1, ())))))

/-- yardarm/yardarmref.CheckLog -/
noncomputable def R_CheckLog_t (a0 : List En) : Option (Int × Unit) :=
  br (decide (lenL a0 > 30))
    (some (2, ()))
    ((loopN R_CheckLog_L4 FUEL (((()), (0, ()), ()), (a0, ()))).bind fun y1 =>
    sumC y1 (fun y2 =>
      some (y2.1.1.1, ())) (fun y3 =>
      some (0, ())))

noncomputable def R_SameLog_L4 (rec : (((Unit) × (Unit) × (Int × Unit) × Unit) × (List En × List En × Unit)) → Option ((((Bool × Unit) × Unit) × (List En × List En × Unit)) ⊕ ((Unit) × (List En × List En × Unit)))) (x : (((Unit) × (Unit) × (Int × Unit) × Unit) × (List En × List En × Unit))) : Option ((((Bool × Unit) × Unit) × (List En × List En × Unit)) ⊕ ((Unit) × (List En × List En × Unit))) :=
  let v0 := x.1.2.2.1.1
  let v1 := x.2.1
  let v2 := x.2.2.1
  br (decide (v0 < lenL v1))
    (req (inRange v0 (lenL v1)) <|
    (geti v1 v0).bind fun p1 =>
    req (inRange v0 (lenL v2)) <|
    (geti v2 v0).bind fun p2 =>
    br (!(eqEn p1 p2))
      (some (Sum.inl (((false, ()), ()), (v1, v2, ()))))
      (req (i64ok (v0 + 1)) <|
      rec (((()), (()), (v0 + 1, ()), ()), (v1, v2, ()))))
    (some (Sum.inr (((()), (v1, v2, ())))))

/-- yardarm/yardarmref.SameLog -/
noncomputable def R_SameLog_t (a0 : List En) (a1 : List En) : Option (Bool × Unit) :=
  br (!decide (lenL a0 = lenL a1))
    (some (false, ()))
    ((loopN R_SameLog_L4 FUEL (((()), (()), (0, ()), ()), (a0, a1, ()))).bind fun y1 =>
    sumC y1 (fun y2 =>
      some (y2.1.1.1, ())) (fun y3 =>
      some (true, ())))

/-- yardarm/yardarmref.DoesBegin -/
noncomputable def R_DoesBegin_t (a0 : List En) (a1 : List En) : Option (Bool × Unit) :=
  br (decide (lenL a0 > lenL a1))
    (some (false, ()))
    (req ((decide (0 ≤ lenL a0)) && (decide (lenL a0 ≤ lenL a1))) <|
    (R_SameLog_t a0 (subL a1 0 (lenL a0))).bind fun y1 =>
    some (y1.1, ()))

noncomputable def R_BehindOf_L3 (rec : (((Unit) × (Unit) × (Int × Unit) × (Unit) × (Int × Unit) × Unit) × (List En × List En × List En × Unit)) → Option (((Unit) × Unit) × (List En × List En × List En × Unit))) (x : (((Unit) × (Unit) × (Int × Unit) × (Unit) × (Int × Unit) × Unit) × (List En × List En × List En × Unit))) : Option (((Unit) × Unit) × (List En × List En × List En × Unit)) :=
  let v0 := x.1.2.2.1.1
  let v1 := x.1.2.2.2.2.1.1
  let v2 := x.2.1
  let v3 := x.2.2.1
  let v4 := x.2.2.2.1
  (br (decide (v1 < lenL v3))
      (req (i64ok ((lenL v2) + v0)) <|
      some (decide (v1 < (lenL v2) + v0)))
      (some false)).bind fun c1 =>
  br c1
    (req (inRange v1 (lenL v3)) <|
    (geti v3 v1).bind fun p2 =>
    req (room (lenL v4) (lenL ([p2] : List En))) <|
    req (i64ok (v1 + 1)) <|
    rec (((()), (()), (v0, ()), (()), (v1 + 1, ()), ()), (v2, v3, v4 ++ ([p2] : List En), ())))
    (some (((()), ()), (v2, v3, v4, ())))

/-- yardarm/yardarmref.BehindOf -/
noncomputable def R_BehindOf_t (a0 : List En) (a1 : List En) (a2 : Int) : Option ((List En) × Unit) :=
  (loopN R_BehindOf_L3 FUEL (((()), (()), (a2, ()), (()), (lenL a0, ()), ()), (a0, a1, ([] : List En), ()))).bind fun y1 =>
  some (y1.2.2.2.1, ())

/-- yardarm/yardarmlaw.v4 -/
noncomputable def law_v4_t (a0 : Int) : Option (Ad × Unit) :=
  some ((⟨false, 0, a0⟩ : Ad), ())

/-- yardarm/yardarmlaw.net -/
noncomputable def law_net_t (a0 : Int) (a1 : Int) : Option (Pf × Unit) :=
  (law_v4_t a0).bind fun y1 =>
  some ((⟨y1.1, a1⟩ : Pf), ())

/-- yardarm/yardarmlaw.some -/
noncomputable def law_some_t : Option ((List Oq) × Unit) :=
  (law_net_t 8 30).bind fun y1 =>
  (law_v4_t 8).bind fun y2 =>
  some (([(⟨1, y1.1, (⟨false, 0, 0⟩ : Ad), (ByteArray.empty), 0, 0⟩ : Oq), (⟨2, (⟨(⟨false, 0, 0⟩ : Ad), 0⟩ : Pf), y2.1, (ByteArray.empty), 0, 0⟩ : Oq), (⟨3, (⟨(⟨false, 0, 0⟩ : Ad), 0⟩ : Pf), (⟨false, 0, 0⟩ : Ad), (⟨#[120]⟩ : ByteArray), 0, 10⟩ : Oq)] : List Oq), ())

/-- yardarm/yardarmlaw.entries -/
noncomputable def law_entries_t : Option ((List En) × Unit) :=
  law_some_t.bind fun y1 =>
  req (inRange 0 (lenL y1.1)) <|
  (geti y1.1 0).bind fun p2 =>
  law_some_t.bind fun y3 =>
  req (inRange 1 (lenL y3.1)) <|
  (geti y3.1 1).bind fun p4 =>
  law_some_t.bind fun y5 =>
  req (inRange 2 (lenL y5.1)) <|
  (geti y5.1 2).bind fun p6 =>
  some (([(⟨1, 1, p2⟩ : En), (⟨2, 1, p4⟩ : En), (⟨3, 4, p6⟩ : En)] : List En), ())

/-- yardarm/yardarmlaw.logIs -/
noncomputable def law_logIs_t (a0 : List En) (a1 : Int) (a2 : Int) (a3 : List En) : Option (Bool × Unit) :=
  br (!decide (a2 = 0))
    ((br (decide (a1 = a2))
        ((R_SameLog_t a0 ([] : List En)).bind fun y1 =>
        some y1.1)
        (some false)).bind fun c1 =>
    some (c1, ()))
    ((br (decide (a1 = a2))
        ((R_SameLog_t a0 a3).bind fun y1 =>
        some y1.1)
        (some false)).bind fun c1 =>
    some (c1, ()))

/-- yardarm/fence.within -/
noncomputable def fence_within_t (a0 : Int) (a1 : Int) (a2 : Int) : Option (Bool × Unit) :=
  (br (decide (a0 ≥ a1))
      (some (decide (a0 ≤ a2)))
      (some false)).bind fun c1 =>
  some (c1, ())

/-- yardarm/fence.Check$1 -/
noncomputable def fence_Check_1_t (a0 : En) (a1 : Int) (a2 : Int) (a3 : Int) (a4 : List En) : Option (Bool × Unit) :=
  some (decide (a0.epoch > a1), ())

noncomputable def fence_Check_slices_ContainsFunc___api_Entry_api_Entry__slices_IndexFunc___api_Entry_api_Entry__L2 (rec : (((Unit) × (Unit) × (Int × Unit) × (Int × Unit) × Unit) × (List En × (Int × Int × Int × Unit) × Unit)) → Option ((((Int × Unit) × Unit) × (List En × (Int × Int × Int × Unit) × Unit)) ⊕ ((Unit) × (List En × (Int × Int × Int × Unit) × Unit)))) (x : (((Unit) × (Unit) × (Int × Unit) × (Int × Unit) × Unit) × (List En × (Int × Int × Int × Unit) × Unit))) : Option ((((Int × Unit) × Unit) × (List En × (Int × Int × Int × Unit) × Unit)) ⊕ ((Unit) × (List En × (Int × Int × Int × Unit) × Unit))) :=
  let v0 := x.1.2.2.1.1
  let v1 := x.1.2.2.2.1.1
  let v2 := x.2.1
  let v3 := x.2.2.1.1
  let v4 := x.2.2.1.2.1
  let v5 := x.2.2.1.2.2.1
  br (decide (v1 < v0))
    (req (inRange v1 (lenL v2)) <|
    (geti v2 v1).bind fun p1 =>
    (fence_Check_1_t p1 v3 v4 v5 v2).bind fun y2 =>
    br y2.1
      (some (Sum.inl (((v1, ()), ()), (v2, (v3, v4, v5, ()), ()))))
      (req (i64ok (v1 + 1)) <|
      rec (((()), (()), (v0, ()), (v1 + 1, ()), ()), (v2, (v3, v4, v5, ()), ()))))
    (some (Sum.inr (((()), (v2, (v3, v4, v5, ()), ())))))

noncomputable def fence_Check_slices_ContainsFunc___api_Entry_api_Entry__2_slices_IndexFunc___api_Entry_api_Entry__L2 (rec : (((Unit) × (Unit) × (Int × Unit) × (Int × Unit) × Unit) × (List En × (Int × Int × Int × Unit) × Unit)) → Option ((((Int × Unit) × Unit) × (List En × (Int × Int × Int × Unit) × Unit)) ⊕ ((Unit) × (List En × (Int × Int × Int × Unit) × Unit)))) (x : (((Unit) × (Unit) × (Int × Unit) × (Int × Unit) × Unit) × (List En × (Int × Int × Int × Unit) × Unit))) : Option ((((Int × Unit) × Unit) × (List En × (Int × Int × Int × Unit) × Unit)) ⊕ ((Unit) × (List En × (Int × Int × Int × Unit) × Unit))) :=
  let v0 := x.1.2.2.1.1
  let v1 := x.1.2.2.2.1.1
  let v2 := x.2.1
  let v3 := x.2.2.1.1
  let v4 := x.2.2.1.2.1
  let v5 := x.2.2.1.2.2.1
  br (decide (v1 < v0))
    (req (inRange v1 (lenL v2)) <|
    (geti v2 v1).bind fun p1 =>
    (fence_Check_1_t p1 v3 v4 v5 v2).bind fun y2 =>
    br y2.1
      (some (Sum.inl (((v1, ()), ()), (v2, (v3, v4, v5, ()), ()))))
      (req (i64ok (v1 + 1)) <|
      rec (((()), (()), (v0, ()), (v1 + 1, ()), ()), (v2, (v3, v4, v5, ()), ()))))
    (some (Sum.inr (((()), (v2, (v3, v4, v5, ()), ())))))

/-- yardarm/fence.Check -/
noncomputable def fence_Check_t (a0 : Int) (a1 : Int) (a2 : Int) (a3 : List En) : Option (Int × Unit) :=
  (fence_within_t a0 0 999).bind fun y1 =>
  (br (!y1.1)
      (some true)
      ((fence_within_t a1 0 2).bind fun y2 =>
      some (!y2.1))).bind fun c2 =>
  (br c2
      (some true)
      ((fence_within_t a2 0 10009).bind fun y3 =>
      some (!y3.1))).bind fun c3 =>
  br c3
    (some (3, ()))
    ((br (decide (a1 = 0))
        (br (!decide (a0 = 0))
          (some true)
          (some (!decide (a2 = 0))))
        (some false)).bind fun c4 =>
    br c4
      (br c4
        (some (4, ()))
        ((log_Check_t a3).bind fun y5 =>
        br (!decide (y5.1 = 0))
          (some (y5.1, ()))
          ((loopN fence_Check_slices_ContainsFunc___api_Entry_api_Entry__slices_IndexFunc___api_Entry_api_Entry__L2 FUEL (((()), (()), (lenL a3, ()), (0, ()), ()), (a3, (a0, a1, a2, ()), ()))).bind fun y6 =>
          sumC y6 (fun y7 =>
            br (decide (y7.1.1.1 ≥ 0))
              (some (4, ()))
              (some (0, ()))) (fun y8 =>
            some (0, ())))))
      ((br (!decide (a1 = 0))
          (some (decide (a0 = 0)))
          (some false)).bind fun c5 =>
      br c5
        (some (4, ()))
        ((log_Check_t a3).bind fun y6 =>
        br (!decide (y6.1 = 0))
          (some (y6.1, ()))
          ((loopN fence_Check_slices_ContainsFunc___api_Entry_api_Entry__2_slices_IndexFunc___api_Entry_api_Entry__L2 FUEL (((()), (()), (lenL a3, ()), (0, ()), ()), (a3, (a0, a1, a2, ()), ()))).bind fun y7 =>
          sumC y7 (fun y8 =>
            br (decide (y8.1.1.1 ≥ 0))
              (some (4, ()))
              (some (0, ()))) (fun y9 =>
            some (0, ()))))))

/-- yardarm/fence.Own -/
noncomputable def fence_Own_t (a0 : Int) (a1 : Int) (a2 : Int) (a3 : List En) : Option ((Int × Int × Int × (List En) × Unit) × Unit) :=
  (slices_Clone___api_Entry_api_Entry__t a3).bind fun y1 =>
  some ((a0, a1, a2, y1.1, ()), ())

/-- yardarm/fence.Get -/
noncomputable def fence_Get_t (a0 : Int) (a1 : Int) (a2 : Int) (a3 : List En) (a4 : Int) (a5 : Int) : Option ((Int × Int × Int × (List En) × Unit) × Int × Unit) :=
  (fence_Own_t a0 a1 a2 a3).bind fun y1 =>
  (br (decide (y1.1.2.1 = 0))
      (some true)
      (some (decide (y1.1.2.2.1 < a5)))).bind fun c2 =>
  (br (!c2)
      (some (!decide (y1.1.2.1 = a4)))
      (some false)).bind fun c3 =>
  br c3
    (some ((0, 0, 0, [], ()), 4, ()))
    ((br c2
        (some (decide (y1.1.1 = 999)))
        (some false)).bind fun c4 =>
    br c4
      (some ((0, 0, 0, [], ()), 2, ()))
      (br c2
        (req (i64ok (y1.1.1 + 1)) <|
        req (i64ok (a5 + 10)) <|
        some ((y1.1.1 + 1, a4, a5 + 10, y1.1.2.2.2.1, ()), 0, ()))
        (req (i64ok (a5 + 10)) <|
        some ((y1.1.1, a4, a5 + 10, y1.1.2.2.2.1, ()), 0, ()))))

/-- yardarm/fence.Acquire -/
noncomputable def fence_Acquire_t (a0 : Int) (a1 : Int) (a2 : Int) (a3 : List En) (a4 : Int) (a5 : Int) : Option ((Int × Int × Int × (List En) × Unit) × Int × Int × Unit) :=
  (fence_Check_t a0 a1 a2 a3).bind fun y1 =>
  (br (decide (y1.1 = 0))
      ((fence_within_t a4 1 2).bind fun y2 =>
      br (!y2.1)
        (some true)
        ((fence_within_t a5 0 9999).bind fun y3 =>
        some (!y3.1)))
      (some false)).bind fun c2 =>
  br c2
    (some ((0, 0, 0, [], ()), 0, 3, ()))
    (br (!decide (y1.1 = 0))
      (some ((0, 0, 0, [], ()), 0, y1.1, ()))
      ((fence_Get_t a0 a1 a2 a3 a4 a5).bind fun y3 =>
      both
        (dup 1 <|
        some ((y3.1.1, y3.1.2.1, y3.1.2.2.1, y3.1.2.2.2.1, ()), y3.1.1, y3.2.1, ()))
        (some ((y3.1.1, y3.1.2.1, y3.1.2.2.1, y3.1.2.2.2.1, ()), y3.1.1, y3.2.1, ()))))

/-- yardarm/log.More -/
noncomputable def log_More_t (a0 : List En) (a1 : Int) (a2 : Oq) : Option ((List En) × Int × Unit) :=
  (log_epoch_t a1).bind fun y1 =>
  br (!y1.1)
    (some (([] : List En), 3, ()))
    ((br (decide (lenL a0 > 0))
        (req (i64ok ((lenL a0) - 1)) <|
        req (inRange ((lenL a0) - 1) (lenL a0)) <|
        req (inRange ((lenL a0) - 1) (lenL a0)) <|
        (geti a0 ((lenL a0) - 1)).bind fun p2 =>
        some (decide (a1 < p2.epoch)))
        (some false)).bind fun c2 =>
    br c2
      (some (([] : List En), 4, ()))
      ((state_Form_t a2).bind fun y3 =>
      br (!decide (y3.1 = 0))
        (some (([] : List En), y3.1, ()))
        (br (decide (lenL a0 = 30))
          (some (([] : List En), 2, ()))
          (req (i64ok ((lenL a0) + 1)) <|
          dup 1 <|
          (slices_Clone___api_Entry_api_Entry__t a0).bind fun y4 =>
          req (room (lenL y4.1) (lenL ([(⟨(lenL a0) + 1, a1, a2⟩ : En)] : List En))) <|
          some (y4.1 ++ ([(⟨(lenL a0) + 1, a1, a2⟩ : En)] : List En), 0, ())))))

/-- yardarm/fence.Put -/
noncomputable def fence_Put_t (a0 : Int) (a1 : Int) (a2 : Int) (a3 : List En) (a4 : Int) (a5 : Oq) : Option ((Int × Int × Int × (List En) × Unit) × Int × Unit) :=
  (br (decide (a4 = 0))
      (some true)
      (some (!decide (a4 = a0)))).bind fun c1 =>
  br c1
    (some ((0, 0, 0, [], ()), 4, ()))
    ((log_More_t a3 a4 a5).bind fun y2 =>
    br (!decide (y2.2.1 = 0))
      (some ((0, 0, 0, [], ()), y2.2.1, ()))
      (some ((a0, a1, a2, y2.1, ()), 0, ())))

/-- yardarm/fence.Write -/
noncomputable def fence_Write_t (a0 : Int) (a1 : Int) (a2 : Int) (a3 : List En) (a4 : Int) (a5 : Oq) : Option ((Int × Int × Int × (List En) × Unit) × Int × Unit) :=
  (fence_Check_t a0 a1 a2 a3).bind fun y1 =>
  br (!decide (y1.1 = 0))
    (some ((0, 0, 0, [], ()), y1.1, ()))
    ((fence_Put_t a0 a1 a2 a3 a4 a5).bind fun y2 =>
    some ((y2.1.1, y2.1.2.1, y2.1.2.2.1, y2.1.2.2.2.1, ()), y2.2.1, ()))

noncomputable def R_CheckDisk_L7 (rec : (((Unit) × (Int × Unit) × (Int × Unit) × Unit) × (List En × (Int × Int × Int × Unit) × Unit)) → Option (((Int × Unit) × Unit) × (List En × Unit))) (x : (((Unit) × (Int × Unit) × (Int × Unit) × Unit) × (List En × (Int × Int × Int × Unit) × Unit))) : Option (((Int × Unit) × Unit) × (List En × Unit)) :=
  let v0 := x.1.2.1.1
  let v1 := x.1.2.2.1.1
  let v2 := x.2.1
  let v3 := x.2.2.1.1
  let v4 := x.2.2.1.2.1
  let v5 := x.2.2.1.2.2.1
  (br (decide (v1 < lenL v2))
      (some (decide (v0 = 0)))
      (some false)).bind fun c1 =>
  br c1
    (req (inRange v1 (lenL v2)) <|
    req (inRange v1 (lenL v2)) <|
    (geti v2 v1).bind fun p2 =>
    br (decide (p2.epoch > v3))
      (req (i64ok (v1 + 1)) <|
      rec (((()), (4, ()), (v1 + 1, ()), ()), (v2, (v3, v4, v5, ()), ())))
      (req (i64ok (v1 + 1)) <|
      rec (((()), (v0, ()), (v1 + 1, ()), ()), (v2, (v3, v4, v5, ()), ()))))
    (some (((v0, ()), ()), (v2, ())))

/-- yardarm/yardarmref.CheckDisk -/
noncomputable def R_CheckDisk_t (a0 : Int) (a1 : Int) (a2 : Int) (a3 : List En) : Option (Int × Unit) :=
  (R_between_t a0 0 999).bind fun y1 =>
  (br (!y1.1)
      (some true)
      ((R_between_t a1 0 2).bind fun y2 =>
      some (!y2.1))).bind fun c2 =>
  (br c2
      (some true)
      ((R_between_t a2 0 10009).bind fun y3 =>
      some (!y3.1))).bind fun c3 =>
  br c3
    (some (3, ()))
    ((br (decide (a1 = 0))
        (br (decide (a0 > 0))
          (some true)
          (some (decide (a2 > 0))))
        (some false)).bind fun c4 =>
    (br c4
        (some true)
        (br (decide (a1 > 0))
          (some (decide (a0 = 0)))
          (some false))).bind fun c5 =>
    br c5
      (some (4, ()))
      ((R_CheckLog_t a3).bind fun y6 =>
      (loopN R_CheckDisk_L7 FUEL (((()), (y6.1, ()), (0, ()), ()), (a3, (a0, a1, a2, ()), ()))).bind fun y7 =>
      some (y7.1.1.1, ())))

/-- yardarm/yardarmref.AddOf -/
noncomputable def R_AddOf_t (a0 : List En) (a1 : Int) (a2 : Oq) : Option ((List En) × Int × Unit) :=
  (R_between_t a1 1 999).bind fun y1 =>
  br (!y1.1)
    (some (([] : List En), 3, ()))
    ((br (decide (lenL a0 > 0))
        (req (i64ok ((lenL a0) - 1)) <|
        req (inRange ((lenL a0) - 1) (lenL a0)) <|
        req (inRange ((lenL a0) - 1) (lenL a0)) <|
        (geti a0 ((lenL a0) - 1)).bind fun p2 =>
        some (decide (a1 < p2.epoch)))
        (some false)).bind fun c2 =>
    br c2
      (some (([] : List En), 4, ()))
      ((R_CheckOp_t a2).bind fun y3 =>
      br (!decide (y3.1 = 0))
        (some (([] : List En), y3.1, ()))
        (br (decide (lenL a0 = 30))
          (some (([] : List En), 2, ()))
          (both
            (both
              (req (room (lenL ([] : List En)) (lenL a0)) <|
              dup 1 <|
              req (i64ok ((lenL a0) + 1)) <|
              req (room (lenL (([] : List En) ++ a0)) (lenL ([(⟨(lenL a0) + 1, a1, a2⟩ : En)] : List En))) <|
              some ((([] : List En) ++ a0) ++ ([(⟨(lenL a0) + 1, a1, a2⟩ : En)] : List En), 0, ()))
              (both
                (req (i64ok ((lenL a0) + 1)) <|
                both
                  (req (room (lenL ([] : List En)) (lenL a0)) <|
                  req (room (lenL (([] : List En) ++ a0)) (lenL ([(⟨(lenL a0) + 1, a1, a2⟩ : En)] : List En))) <|
                  some ((([] : List En) ++ a0) ++ ([(⟨(lenL a0) + 1, a1, a2⟩ : En)] : List En), 0, ()))
                  (dup 1 <|
                  req (room (lenL ([] : List En)) (lenL a0)) <|
                  req (room (lenL (([] : List En) ++ a0)) (lenL ([(⟨(lenL a0) + 1, a1, a2⟩ : En)] : List En))) <|
                  some ((([] : List En) ++ a0) ++ ([(⟨(lenL a0) + 1, a1, a2⟩ : En)] : List En), 0, ())))
                (both
                  (req (room (lenL ([] : List En)) (lenL a0)) <|
                  req (i64ok ((lenL a0) + 1)) <|
                  req (room (lenL (([] : List En) ++ a0)) (lenL ([(⟨(lenL a0) + 1, a1, a2⟩ : En)] : List En))) <|
                  some ((([] : List En) ++ a0) ++ ([(⟨(lenL a0) + 1, a1, a2⟩ : En)] : List En), 0, ()))
                  (req (i64ok ((lenL a0) + 1)) <|
                  dup 1 <|
                  req (room (lenL ([] : List En)) (lenL a0)) <|
                  req (room (lenL (([] : List En) ++ a0)) (lenL ([(⟨(lenL a0) + 1, a1, a2⟩ : En)] : List En))) <|
                  some ((([] : List En) ++ a0) ++ ([(⟨(lenL a0) + 1, a1, a2⟩ : En)] : List En), 0, ())))))
            (both
              (req (i64ok ((lenL a0) + 1)) <|
              both
                (both
                  (req (room (lenL ([] : List En)) (lenL a0)) <|
                  req (room (lenL (([] : List En) ++ a0)) (lenL ([(⟨(lenL a0) + 1, a1, a2⟩ : En)] : List En))) <|
                  some ((([] : List En) ++ a0) ++ ([(⟨(lenL a0) + 1, a1, a2⟩ : En)] : List En), 0, ()))
                  (dup 1 <|
                  req (room (lenL ([] : List En)) (lenL a0)) <|
                  req (room (lenL (([] : List En) ++ a0)) (lenL ([(⟨(lenL a0) + 1, a1, a2⟩ : En)] : List En))) <|
                  some ((([] : List En) ++ a0) ++ ([(⟨(lenL a0) + 1, a1, a2⟩ : En)] : List En), 0, ())))
                (both
                  (dup 1 <|
                  req (room (lenL ([] : List En)) (lenL a0)) <|
                  req (room (lenL (([] : List En) ++ a0)) (lenL ([(⟨(lenL a0) + 1, a1, a2⟩ : En)] : List En))) <|
                  some ((([] : List En) ++ a0) ++ ([(⟨(lenL a0) + 1, a1, a2⟩ : En)] : List En), 0, ()))
                  (req (room (lenL ([] : List En)) (lenL a0)) <|
                  req (room (lenL (([] : List En) ++ a0)) (lenL ([(⟨(lenL a0) + 1, a1, a2⟩ : En)] : List En))) <|
                  some ((([] : List En) ++ a0) ++ ([(⟨(lenL a0) + 1, a1, a2⟩ : En)] : List En), 0, ()))))
              (both
                (both
                  (req (room (lenL ([] : List En)) (lenL a0)) <|
                  req (i64ok ((lenL a0) + 1)) <|
                  req (room (lenL (([] : List En) ++ a0)) (lenL ([(⟨(lenL a0) + 1, a1, a2⟩ : En)] : List En))) <|
                  some ((([] : List En) ++ a0) ++ ([(⟨(lenL a0) + 1, a1, a2⟩ : En)] : List En), 0, ()))
                  (req (i64ok ((lenL a0) + 1)) <|
                  dup 1 <|
                  req (room (lenL ([] : List En)) (lenL a0)) <|
                  req (room (lenL (([] : List En) ++ a0)) (lenL ([(⟨(lenL a0) + 1, a1, a2⟩ : En)] : List En))) <|
                  some ((([] : List En) ++ a0) ++ ([(⟨(lenL a0) + 1, a1, a2⟩ : En)] : List En), 0, ())))
                (req (i64ok ((lenL a0) + 1)) <|
                both
                  (dup 1 <|
                  req (room (lenL ([] : List En)) (lenL a0)) <|
                  req (room (lenL (([] : List En) ++ a0)) (lenL ([(⟨(lenL a0) + 1, a1, a2⟩ : En)] : List En))) <|
                  some ((([] : List En) ++ a0) ++ ([(⟨(lenL a0) + 1, a1, a2⟩ : En)] : List En), 0, ()))
                  (req (room (lenL ([] : List En)) (lenL a0)) <|
                  req (room (lenL (([] : List En) ++ a0)) (lenL ([(⟨(lenL a0) + 1, a1, a2⟩ : En)] : List En))) <|
                  some ((([] : List En) ++ a0) ++ ([(⟨(lenL a0) + 1, a1, a2⟩ : En)] : List En), 0, ())))))))))

/-- yardarm/yardarmref.WriteOf -/
noncomputable def R_WriteOf_t (a0 : Int) (a1 : Int) (a2 : Int) (a3 : List En) (a4 : Int) (a5 : Oq) : Option ((Int × Int × Int × (List En) × Unit) × Int × Unit) :=
  (br (!decide (a4 = a0))
      (some true)
      (some (decide (a4 = 0)))).bind fun c1 =>
  br c1
    (some ((0, 0, 0, [], ()), 4, ()))
    ((R_AddOf_t a3 a4 a5).bind fun y2 =>
    br (!decide (y2.2.1 = 0))
      (some ((0, 0, 0, [], ()), y2.2.1, ()))
      (some ((a0, a1, a2, y2.1, ()), y2.2.1, ())))

/-- yardarm/yardarmlaw.store -/
noncomputable def law_store_t : Option ((Int × Int × Int × (List En) × Unit) × Unit) :=
  law_entries_t.bind fun y1 =>
  some ((4, 1, 12, y1.1, ()), ())

/-- yardarm/yardarmlaw.fenceBegun -/
noncomputable def law_fenceBegun_t : Option (Bool × Unit) :=
  law_store_t.bind fun y1 =>
  (fence_Acquire_t y1.1.1 y1.1.2.1 y1.1.2.2.1 y1.1.2.2.2.1 2 13).bind fun y2 =>
  law_store_t.bind fun y3 =>
  (fence_Acquire_t y3.1.1 y3.1.2.1 y3.1.2.2.1 y3.1.2.2.2.1 2 12).bind fun y4 =>
  law_store_t.bind fun y5 =>
  (fence_Acquire_t y5.1.1 y5.1.2.1 y5.1.2.2.1 y5.1.2.2.2.1 1 12).bind fun y6 =>
  both
    (law_some_t.bind fun y7 =>
    req (inRange 2 (lenL y7.1)) <|
    (geti y7.1 2).bind fun p8 =>
    dup 1 <|
    (fence_Write_t y2.1.1 y2.1.2.1 y2.1.2.2.1 y2.1.2.2.2.1 4 p8).bind fun y9 =>
    both
      (law_some_t.bind fun y10 =>
      req (inRange 2 (lenL y10.1)) <|
      (geti y10.1 2).bind fun p11 =>
      dup 1 <|
      (fence_Write_t y2.1.1 y2.1.2.1 y2.1.2.2.1 y2.1.2.2.2.1 5 p11).bind fun y12 =>
      law_store_t.bind fun y13 =>
      (fence_Check_t y13.1.1 y13.1.2.1 y13.1.2.2.1 y13.1.2.2.2.1).bind fun y14 =>
      (br (decide (y14.1 = 0))
          (some (decide (y2.2.2.1 = 0)))
          (some false)).bind fun c15 =>
      (br c15
          (some (decide (y4.2.2.1 = 4)))
          (some false)).bind fun c16 =>
      (br c16
          (some (decide (y6.2.2.1 = 0)))
          (some false)).bind fun c17 =>
      (br c17
          (some (decide (y9.2.1 = 4)))
          (some false)).bind fun c18 =>
      (br c18
          (some (decide (y12.2.1 = 0)))
          (some false)).bind fun c19 =>
      (br c19
          (some (decide (y2.2.1 = 5)))
          (some false)).bind fun c20 =>
      (br c20
          (some (decide (y6.2.1 = 4)))
          (some false)).bind fun c21 =>
      (br c21
          (some (decide (y2.1.2.1 = 2)))
          (some false)).bind fun c22 =>
      (br c22
          (some (decide (y6.1.2.2.1 = 22)))
          (some false)).bind fun c23 =>
      (br c23
          (some (decide (lenL y12.1.2.2.2.1 = 4)))
          (some false)).bind fun c24 =>
      some (c24, ()))
      (law_some_t.bind fun y10 =>
      req (inRange 2 (lenL y10.1)) <|
      (geti y10.1 2).bind fun p11 =>
      (fence_Write_t y2.1.1 y2.1.2.1 y2.1.2.2.1 y2.1.2.2.2.1 5 p11).bind fun y12 =>
      law_store_t.bind fun y13 =>
      (fence_Check_t y13.1.1 y13.1.2.1 y13.1.2.2.1 y13.1.2.2.2.1).bind fun y14 =>
      (br (decide (y14.1 = 0))
          (some (decide (y2.2.2.1 = 0)))
          (some false)).bind fun c15 =>
      (br c15
          (some (decide (y4.2.2.1 = 4)))
          (some false)).bind fun c16 =>
      (br c16
          (some (decide (y6.2.2.1 = 0)))
          (some false)).bind fun c17 =>
      (br c17
          (some (decide (y9.2.1 = 4)))
          (some false)).bind fun c18 =>
      (br c18
          (some (decide (y12.2.1 = 0)))
          (some false)).bind fun c19 =>
      (br c19
          (some (decide (y2.2.1 = 5)))
          (some false)).bind fun c20 =>
      (br c20
          (some (decide (y6.2.1 = 4)))
          (some false)).bind fun c21 =>
      (br c21
          (some (decide (y2.1.2.1 = 2)))
          (some false)).bind fun c22 =>
      (br c22
          (some (decide (y6.1.2.2.1 = 22)))
          (some false)).bind fun c23 =>
      (br c23
          (some (decide (lenL y12.1.2.2.2.1 = 4)))
          (some false)).bind fun c24 =>
      some (c24, ())))
    (law_some_t.bind fun y7 =>
    req (inRange 2 (lenL y7.1)) <|
    (geti y7.1 2).bind fun p8 =>
    (fence_Write_t y2.1.1 y2.1.2.1 y2.1.2.2.1 y2.1.2.2.2.1 4 p8).bind fun y9 =>
    both
      (law_some_t.bind fun y10 =>
      req (inRange 2 (lenL y10.1)) <|
      (geti y10.1 2).bind fun p11 =>
      dup 1 <|
      (fence_Write_t y2.1.1 y2.1.2.1 y2.1.2.2.1 y2.1.2.2.2.1 5 p11).bind fun y12 =>
      law_store_t.bind fun y13 =>
      (fence_Check_t y13.1.1 y13.1.2.1 y13.1.2.2.1 y13.1.2.2.2.1).bind fun y14 =>
      (br (decide (y14.1 = 0))
          (some (decide (y2.2.2.1 = 0)))
          (some false)).bind fun c15 =>
      (br c15
          (some (decide (y4.2.2.1 = 4)))
          (some false)).bind fun c16 =>
      (br c16
          (some (decide (y6.2.2.1 = 0)))
          (some false)).bind fun c17 =>
      (br c17
          (some (decide (y9.2.1 = 4)))
          (some false)).bind fun c18 =>
      (br c18
          (some (decide (y12.2.1 = 0)))
          (some false)).bind fun c19 =>
      (br c19
          (some (decide (y2.2.1 = 5)))
          (some false)).bind fun c20 =>
      (br c20
          (some (decide (y6.2.1 = 4)))
          (some false)).bind fun c21 =>
      (br c21
          (some (decide (y2.1.2.1 = 2)))
          (some false)).bind fun c22 =>
      (br c22
          (some (decide (y6.1.2.2.1 = 22)))
          (some false)).bind fun c23 =>
      (br c23
          (some (decide (lenL y12.1.2.2.2.1 = 4)))
          (some false)).bind fun c24 =>
      some (c24, ()))
      (law_some_t.bind fun y10 =>
      req (inRange 2 (lenL y10.1)) <|
      (geti y10.1 2).bind fun p11 =>
      (fence_Write_t y2.1.1 y2.1.2.1 y2.1.2.2.1 y2.1.2.2.2.1 5 p11).bind fun y12 =>
      law_store_t.bind fun y13 =>
      (fence_Check_t y13.1.1 y13.1.2.1 y13.1.2.2.1 y13.1.2.2.2.1).bind fun y14 =>
      (br (decide (y14.1 = 0))
          (some (decide (y2.2.2.1 = 0)))
          (some false)).bind fun c15 =>
      (br c15
          (some (decide (y4.2.2.1 = 4)))
          (some false)).bind fun c16 =>
      (br c16
          (some (decide (y6.2.2.1 = 0)))
          (some false)).bind fun c17 =>
      (br c17
          (some (decide (y9.2.1 = 4)))
          (some false)).bind fun c18 =>
      (br c18
          (some (decide (y12.2.1 = 0)))
          (some false)).bind fun c19 =>
      (br c19
          (some (decide (y2.2.1 = 5)))
          (some false)).bind fun c20 =>
      (br c20
          (some (decide (y6.2.1 = 4)))
          (some false)).bind fun c21 =>
      (br c21
          (some (decide (y2.1.2.1 = 2)))
          (some false)).bind fun c22 =>
      (br c22
          (some (decide (y6.1.2.2.1 = 22)))
          (some false)).bind fun c23 =>
      (br c23
          (some (decide (lenL y12.1.2.2.2.1 = 4)))
          (some false)).bind fun c24 =>
      some (c24, ())))

/-- yardarm/yardarmref.SameDisk -/
noncomputable def R_SameDisk_t (a0 : Int) (a1 : Int) (a2 : Int) (a3 : List En) (a4 : Int) (a5 : Int) (a6 : Int) (a7 : List En) : Option (Bool × Unit) :=
  (br (decide (a0 = a4))
      (some ((decide (a1 = a5)) && (decide (a2 = a6))))
      (some false)).bind fun c1 =>
  (br c1
      ((R_SameLog_t a3 a7).bind fun y2 =>
      some y2.1)
      (some false)).bind fun c2 =>
  some (c2, ())

/-- yardarm/yardarmlaw.diskIs -/
noncomputable def law_diskIs_t (a0 : Int) (a1 : Int) (a2 : Int) (a3 : List En) (a4 : Int) (a5 : Int) (a6 : Int) (a7 : Int) (a8 : Int) (a9 : List En) : Option (Bool × Unit) :=
  br (!decide (a5 = 0))
    ((br (decide (a4 = a5))
        ((R_SameDisk_t a0 a1 a2 a3 0 0 0 []).bind fun y1 =>
        some y1.1)
        (some false)).bind fun c1 =>
    some (c1, ()))
    ((br (decide (a4 = a5))
        ((R_SameDisk_t a0 a1 a2 a3 a6 a7 a8 a9).bind fun y1 =>
        some y1.1)
        (some false)).bind fun c1 =>
    some (c1, ()))

/-- yardarm/yardarmlaw.FenceTells -/
noncomputable def law_FenceTells_t (a0 : Int) (a1 : Int) (a2 : Int) (a3 : List En) (a4 : Int) (a5 : Int) (a6 : Int) (a7 : Oq) : Option (Bool × Unit) :=
  (fence_Acquire_t a0 a1 a2 a3 a4 a5).bind fun y1 =>
  (fence_Write_t a0 a1 a2 a3 a6 a7).bind fun y2 =>
  (R_CheckDisk_t a0 a1 a2 a3).bind fun y3 =>
  (br (decide (y3.1 = 0))
      (br (decide (a4 < 1))
        (some true)
        (br (decide (a4 > 2))
          (some true)
          (br (decide (a5 < 0))
            (some true)
            (some (decide (a5 > 9999))))))
      (some false)).bind fun c4 =>
  br c4
    (br (decide (y3.1 = 0))
      ((R_WriteOf_t a0 a1 a2 a3 a6 a7).bind fun y5 =>
      law_fenceBegun_t.bind fun y6 =>
      (br y6.1
          ((fence_Check_t a0 a1 a2 a3).bind fun y7 =>
          some (decide (y7.1 = y3.1)))
          (some false)).bind fun c7 =>
      (br c7
          ((law_diskIs_t y1.1.1 y1.1.2.1 y1.1.2.2.1 y1.1.2.2.2.1 y1.2.2.1 3 0 0 0 []).bind fun y8 =>
          some y8.1)
          (some false)).bind fun c8 =>
      (br c8
          (some (decide (y1.2.1 = 0)))
          (some false)).bind fun c9 =>
      (br c9
          ((law_diskIs_t y2.1.1 y2.1.2.1 y2.1.2.2.1 y2.1.2.2.2.1 y2.2.1 y5.2.1 y5.1.1 y5.1.2.1 y5.1.2.2.1 y5.1.2.2.2.1).bind fun y10 =>
          some y10.1)
          (some false)).bind fun c10 =>
      some (c10, ()))
      (law_fenceBegun_t.bind fun y5 =>
      (br y5.1
          ((fence_Check_t a0 a1 a2 a3).bind fun y6 =>
          some (decide (y6.1 = y3.1)))
          (some false)).bind fun c6 =>
      (br c6
          ((law_diskIs_t y1.1.1 y1.1.2.1 y1.1.2.2.1 y1.1.2.2.2.1 y1.2.2.1 3 0 0 0 []).bind fun y7 =>
          some y7.1)
          (some false)).bind fun c7 =>
      (br c7
          (some (decide (y1.2.1 = 0)))
          (some false)).bind fun c8 =>
      (br c8
          ((law_diskIs_t y2.1.1 y2.1.2.1 y2.1.2.2.1 y2.1.2.2.2.1 y2.2.1 y3.1 0 0 0 []).bind fun y9 =>
          some y9.1)
          (some false)).bind fun c9 =>
      some (c9, ())))
    (br (decide (y3.1 = 0))
      ((br (!decide (a1 = 0))
          (some (decide (a2 ≥ a5)))
          (some false)).bind fun c5 =>
      (br c5
          (some (!decide (a1 = a4)))
          (some false)).bind fun c6 =>
      br c6
        (br (decide (y3.1 = 0))
          ((R_WriteOf_t a0 a1 a2 a3 a6 a7).bind fun y7 =>
          law_fenceBegun_t.bind fun y8 =>
          (br y8.1
              ((fence_Check_t a0 a1 a2 a3).bind fun y9 =>
              some (decide (y9.1 = y3.1)))
              (some false)).bind fun c9 =>
          (br c9
              ((law_diskIs_t y1.1.1 y1.1.2.1 y1.1.2.2.1 y1.1.2.2.2.1 y1.2.2.1 4 0 0 0 []).bind fun y10 =>
              some y10.1)
              (some false)).bind fun c10 =>
          (br c10
              (some (decide (y1.2.1 = 0)))
              (some false)).bind fun c11 =>
          (br c11
              ((law_diskIs_t y2.1.1 y2.1.2.1 y2.1.2.2.1 y2.1.2.2.2.1 y2.2.1 y7.2.1 y7.1.1 y7.1.2.1 y7.1.2.2.1 y7.1.2.2.2.1).bind fun y12 =>
              some y12.1)
              (some false)).bind fun c12 =>
          some (c12, ()))
          (law_fenceBegun_t.bind fun y7 =>
          (br y7.1
              ((fence_Check_t a0 a1 a2 a3).bind fun y8 =>
              some (decide (y8.1 = y3.1)))
              (some false)).bind fun c8 =>
          (br c8
              ((law_diskIs_t y1.1.1 y1.1.2.1 y1.1.2.2.1 y1.1.2.2.2.1 y1.2.2.1 4 0 0 0 []).bind fun y9 =>
              some y9.1)
              (some false)).bind fun c9 =>
          (br c9
              (some (decide (y1.2.1 = 0)))
              (some false)).bind fun c10 =>
          (br c10
              ((law_diskIs_t y2.1.1 y2.1.2.1 y2.1.2.2.1 y2.1.2.2.2.1 y2.2.1 y3.1 0 0 0 []).bind fun y11 =>
              some y11.1)
              (some false)).bind fun c11 =>
          some (c11, ())))
        (br (!c5)
          (req (i64ok (a0 + 1)) <|
          br (decide (a0 + 1 > 999))
            (br (decide (y3.1 = 0))
              ((R_WriteOf_t a0 a1 a2 a3 a6 a7).bind fun y7 =>
              law_fenceBegun_t.bind fun y8 =>
              (br y8.1
                  ((fence_Check_t a0 a1 a2 a3).bind fun y9 =>
                  some (decide (y9.1 = y3.1)))
                  (some false)).bind fun c9 =>
              (br c9
                  ((law_diskIs_t y1.1.1 y1.1.2.1 y1.1.2.2.1 y1.1.2.2.2.1 y1.2.2.1 2 0 0 0 []).bind fun y10 =>
                  some y10.1)
                  (some false)).bind fun c10 =>
              (br c10
                  (some (decide (y1.2.1 = 0)))
                  (some false)).bind fun c11 =>
              (br c11
                  ((law_diskIs_t y2.1.1 y2.1.2.1 y2.1.2.2.1 y2.1.2.2.2.1 y2.2.1 y7.2.1 y7.1.1 y7.1.2.1 y7.1.2.2.1 y7.1.2.2.2.1).bind fun y12 =>
                  some y12.1)
                  (some false)).bind fun c12 =>
              some (c12, ()))
              (law_fenceBegun_t.bind fun y7 =>
              (br y7.1
                  ((fence_Check_t a0 a1 a2 a3).bind fun y8 =>
                  some (decide (y8.1 = y3.1)))
                  (some false)).bind fun c8 =>
              (br c8
                  ((law_diskIs_t y1.1.1 y1.1.2.1 y1.1.2.2.1 y1.1.2.2.2.1 y1.2.2.1 2 0 0 0 []).bind fun y9 =>
                  some y9.1)
                  (some false)).bind fun c9 =>
              (br c9
                  (some (decide (y1.2.1 = 0)))
                  (some false)).bind fun c10 =>
              (br c10
                  ((law_diskIs_t y2.1.1 y2.1.2.1 y2.1.2.2.1 y2.1.2.2.2.1 y2.2.1 y3.1 0 0 0 []).bind fun y11 =>
                  some y11.1)
                  (some false)).bind fun c11 =>
              some (c11, ())))
            (req (i64ok (a5 + 10)) <|
            br (decide (y3.1 = 0))
              ((R_WriteOf_t a0 a1 a2 a3 a6 a7).bind fun y7 =>
              law_fenceBegun_t.bind fun y8 =>
              (br y8.1
                  ((fence_Check_t a0 a1 a2 a3).bind fun y9 =>
                  some (decide (y9.1 = y3.1)))
                  (some false)).bind fun c9 =>
              (br c9
                  ((law_diskIs_t y1.1.1 y1.1.2.1 y1.1.2.2.1 y1.1.2.2.2.1 y1.2.2.1 0 (a0 + 1) a4 (a5 + 10) a3).bind fun y10 =>
                  some y10.1)
                  (some false)).bind fun c10 =>
              (br c10
                  (some (decide (y1.2.1 = a0 + 1)))
                  (some false)).bind fun c11 =>
              (br c11
                  ((law_diskIs_t y2.1.1 y2.1.2.1 y2.1.2.2.1 y2.1.2.2.2.1 y2.2.1 y7.2.1 y7.1.1 y7.1.2.1 y7.1.2.2.1 y7.1.2.2.2.1).bind fun y12 =>
                  some y12.1)
                  (some false)).bind fun c12 =>
              some (c12, ()))
              (law_fenceBegun_t.bind fun y7 =>
              (br y7.1
                  ((fence_Check_t a0 a1 a2 a3).bind fun y8 =>
                  some (decide (y8.1 = y3.1)))
                  (some false)).bind fun c8 =>
              (br c8
                  ((law_diskIs_t y1.1.1 y1.1.2.1 y1.1.2.2.1 y1.1.2.2.2.1 y1.2.2.1 0 (a0 + 1) a4 (a5 + 10) a3).bind fun y9 =>
                  some y9.1)
                  (some false)).bind fun c9 =>
              (br c9
                  (some (decide (y1.2.1 = a0 + 1)))
                  (some false)).bind fun c10 =>
              (br c10
                  ((law_diskIs_t y2.1.1 y2.1.2.1 y2.1.2.2.1 y2.1.2.2.2.1 y2.2.1 y3.1 0 0 0 []).bind fun y11 =>
                  some y11.1)
                  (some false)).bind fun c11 =>
              some (c11, ()))))
          (br (decide (a0 > 999))
            (br (decide (y3.1 = 0))
              ((R_WriteOf_t a0 a1 a2 a3 a6 a7).bind fun y7 =>
              law_fenceBegun_t.bind fun y8 =>
              (br y8.1
                  ((fence_Check_t a0 a1 a2 a3).bind fun y9 =>
                  some (decide (y9.1 = y3.1)))
                  (some false)).bind fun c9 =>
              (br c9
                  ((law_diskIs_t y1.1.1 y1.1.2.1 y1.1.2.2.1 y1.1.2.2.2.1 y1.2.2.1 2 0 0 0 []).bind fun y10 =>
                  some y10.1)
                  (some false)).bind fun c10 =>
              (br c10
                  (some (decide (y1.2.1 = 0)))
                  (some false)).bind fun c11 =>
              (br c11
                  ((law_diskIs_t y2.1.1 y2.1.2.1 y2.1.2.2.1 y2.1.2.2.2.1 y2.2.1 y7.2.1 y7.1.1 y7.1.2.1 y7.1.2.2.1 y7.1.2.2.2.1).bind fun y12 =>
                  some y12.1)
                  (some false)).bind fun c12 =>
              some (c12, ()))
              (law_fenceBegun_t.bind fun y7 =>
              (br y7.1
                  ((fence_Check_t a0 a1 a2 a3).bind fun y8 =>
                  some (decide (y8.1 = y3.1)))
                  (some false)).bind fun c8 =>
              (br c8
                  ((law_diskIs_t y1.1.1 y1.1.2.1 y1.1.2.2.1 y1.1.2.2.2.1 y1.2.2.1 2 0 0 0 []).bind fun y9 =>
                  some y9.1)
                  (some false)).bind fun c9 =>
              (br c9
                  (some (decide (y1.2.1 = 0)))
                  (some false)).bind fun c10 =>
              (br c10
                  ((law_diskIs_t y2.1.1 y2.1.2.1 y2.1.2.2.1 y2.1.2.2.2.1 y2.2.1 y3.1 0 0 0 []).bind fun y11 =>
                  some y11.1)
                  (some false)).bind fun c11 =>
              some (c11, ())))
            (req (i64ok (a5 + 10)) <|
            br (decide (y3.1 = 0))
              ((R_WriteOf_t a0 a1 a2 a3 a6 a7).bind fun y7 =>
              law_fenceBegun_t.bind fun y8 =>
              (br y8.1
                  ((fence_Check_t a0 a1 a2 a3).bind fun y9 =>
                  some (decide (y9.1 = y3.1)))
                  (some false)).bind fun c9 =>
              (br c9
                  ((law_diskIs_t y1.1.1 y1.1.2.1 y1.1.2.2.1 y1.1.2.2.2.1 y1.2.2.1 0 a0 a4 (a5 + 10) a3).bind fun y10 =>
                  some y10.1)
                  (some false)).bind fun c10 =>
              (br c10
                  (some (decide (y1.2.1 = a0)))
                  (some false)).bind fun c11 =>
              (br c11
                  ((law_diskIs_t y2.1.1 y2.1.2.1 y2.1.2.2.1 y2.1.2.2.2.1 y2.2.1 y7.2.1 y7.1.1 y7.1.2.1 y7.1.2.2.1 y7.1.2.2.2.1).bind fun y12 =>
                  some y12.1)
                  (some false)).bind fun c12 =>
              some (c12, ()))
              (law_fenceBegun_t.bind fun y7 =>
              (br y7.1
                  ((fence_Check_t a0 a1 a2 a3).bind fun y8 =>
                  some (decide (y8.1 = y3.1)))
                  (some false)).bind fun c8 =>
              (br c8
                  ((law_diskIs_t y1.1.1 y1.1.2.1 y1.1.2.2.1 y1.1.2.2.2.1 y1.2.2.1 0 a0 a4 (a5 + 10) a3).bind fun y9 =>
                  some y9.1)
                  (some false)).bind fun c9 =>
              (br c9
                  (some (decide (y1.2.1 = a0)))
                  (some false)).bind fun c10 =>
              (br c10
                  ((law_diskIs_t y2.1.1 y2.1.2.1 y2.1.2.2.1 y2.1.2.2.2.1 y2.2.1 y3.1 0 0 0 []).bind fun y11 =>
                  some y11.1)
                  (some false)).bind fun c11 =>
              some (c11, ()))))))
      (br (decide (y3.1 = 0))
        ((R_WriteOf_t a0 a1 a2 a3 a6 a7).bind fun y5 =>
        law_fenceBegun_t.bind fun y6 =>
        (br y6.1
            ((fence_Check_t a0 a1 a2 a3).bind fun y7 =>
            some (decide (y7.1 = y3.1)))
            (some false)).bind fun c7 =>
        (br c7
            ((law_diskIs_t y1.1.1 y1.1.2.1 y1.1.2.2.1 y1.1.2.2.2.1 y1.2.2.1 y3.1 0 0 0 []).bind fun y8 =>
            some y8.1)
            (some false)).bind fun c8 =>
        (br c8
            (some (decide (y1.2.1 = 0)))
            (some false)).bind fun c9 =>
        (br c9
            ((law_diskIs_t y2.1.1 y2.1.2.1 y2.1.2.2.1 y2.1.2.2.2.1 y2.2.1 y5.2.1 y5.1.1 y5.1.2.1 y5.1.2.2.1 y5.1.2.2.2.1).bind fun y10 =>
            some y10.1)
            (some false)).bind fun c10 =>
        some (c10, ()))
        (law_fenceBegun_t.bind fun y5 =>
        (br y5.1
            ((fence_Check_t a0 a1 a2 a3).bind fun y6 =>
            some (decide (y6.1 = y3.1)))
            (some false)).bind fun c6 =>
        (br c6
            ((law_diskIs_t y1.1.1 y1.1.2.1 y1.1.2.2.1 y1.1.2.2.2.1 y1.2.2.1 y3.1 0 0 0 []).bind fun y7 =>
            some y7.1)
            (some false)).bind fun c7 =>
        (br c7
            (some (decide (y1.2.1 = 0)))
            (some false)).bind fun c8 =>
        (br c8
            ((law_diskIs_t y2.1.1 y2.1.2.1 y2.1.2.2.1 y2.1.2.2.2.1 y2.2.1 y3.1 0 0 0 []).bind fun y9 =>
            some y9.1)
            (some false)).bind fun c9 =>
        some (c9, ()))))

/-- yardarm/yardarmlaw.FenceTime -/
noncomputable def law_FenceTime_t (a0 : Int) (a1 : Int) (a2 : Int) (a3 : List En) (a4 : Int) (a5 : Int) (a6 : Int) : Option (Bool × Unit) :=
  law_fenceBegun_t.bind fun y1 =>
  br (!y1.1)
    (some (false, ()))
    ((fence_Acquire_t a0 a1 a2 a3 a4 a5).bind fun y2 =>
    (br (!decide (y2.2.2.1 = 0))
        (some true)
        (some (decide (a6 < 0)))).bind fun c3 =>
    (br c3
        (some true)
        (req (i64ok (9999 - a5)) <|
        some (decide (a6 > 9999 - a5)))).bind fun c4 =>
    br c4
      ((br (decide (y2.2.2.1 = 0))
          (some true)
          (some (decide (y2.2.1 = 0)))).bind fun c5 =>
      some (c5, ()))
      (req (i64ok (3 - a4)) <|
      req (i64ok (a5 + a6)) <|
      (fence_Acquire_t y2.1.1 y2.1.2.1 y2.1.2.2.1 y2.1.2.2.2.1 (3 - a4) (a5 + a6)).bind fun y5 =>
      br (decide (a6 ≤ 10))
        (br (!decide (y5.2.2.1 = 4))
          (some (false, ()))
          (req (i64ok (a5 + a6)) <|
          (fence_Acquire_t y2.1.1 y2.1.2.1 y2.1.2.2.1 y2.1.2.2.2.1 a4 (a5 + a6)).bind fun y6 =>
          (br (decide (y6.2.2.1 = 0))
              (some (decide (y6.2.1 = y2.2.1)))
              (some false)).bind fun c7 =>
          (br c7
              (req (i64ok (a5 + a6)) <|
              req (i64ok ((a5 + a6) + 10)) <|
              some (decide (y6.1.2.2.1 = (a5 + a6) + 10)))
              (some false)).bind fun c8 =>
          some (c8, ())))
        (br (decide (y2.2.1 = 999))
          (some (decide (y5.2.2.1 = 2), ()))
          ((br (decide (y5.2.2.1 = 0))
              (req (i64ok (y2.2.1 + 1)) <|
              some (decide (y5.2.1 = y2.2.1 + 1)))
              (some false)).bind fun c6 =>
          (br c6
              (req (i64ok (3 - a4)) <|
              some (decide (y5.1.2.1 = 3 - a4)))
              (some false)).bind fun c7 =>
          some (c7, ())))))

end Go.Ma
