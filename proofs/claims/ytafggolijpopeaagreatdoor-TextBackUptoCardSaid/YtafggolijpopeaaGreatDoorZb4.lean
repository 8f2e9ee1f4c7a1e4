/-
  Parts: Lg Lh Za Zb Zc Zd Ze Li Lo Cf Ph Pi Pj Ha Pk Cb Cd Lm Pd Pe Pg Sa Cc Sb Sc Sd Se Sf Sg Sh Si Yb Va Vb Vc Vd Cg Lk Zg Zh Zi Zj Ty Hd.
-/
import Derived.Lib.AtoiTie
import Derived.Lib.IndexLaws
import Derived.Test.YtafggolijpopeaaGreatDoorRows
import Derived.WalkKit
import Derived.ProofKit
import Derived.Lib.Walk
import Derived.Lib.SliceRun
import Derived.Lib.JoinLaws
import Derived.Lib.AppendZeros
import Derived.Lib.AppendZerosOnto
import Derived.Lib.Overlaps
import Derived.Laws.Externs
import Derived.Laws.IdiomCopy
import Derived.Laws.AppendOwn
import Derived.Shelf.Spec.SlicesInsertGrow
import Derived.Test.YtafggolijpopeaaGreatDoorZb3
set_option linter.unusedVariables false
set_option linter.unusedSimpArgs false
open List renaming getElem?_eq_getElem → zc0, getElem?_eq_some_iff → zc1, getD_eq_getElem?_getD → zc3, mem_of_getElem? → zc5, getElem?_cons_zero → zc13, getElem?_take → zc14, all_eq_true → zc17, drop_of_length_le → zc18, length_take → zc20, length_cons → zc21, getElem?_eq_none → zc22, length_append → zc24, take_succ_eq_append_getElem → zc26, mem_cons → zc28, getElem?_append → zc29, mem_iff_getElem? → zc30, length_nil → zc32, getElem?_cons_succ → zc35, mem_append → zc36, not_mem_nil → zc38, mem_singleton → zc39, getElem?_drop → zc40, length_drop → zc41, nil_append → zc44, pairwise_cons → zc47, append_assoc → zc48
open Option.some renaming injEq → zc2
open Bool renaming and_eq_true → zc4, not_true → zc10, false_eq_true → zc16, not_false → zc19
open Option renaming map_eq_some_iff → zc7
open Prod.mk renaming injEq → zc11
open Array renaming getElem?_toList → zc25, getElem?_eq_getElem → zc46
open Int renaming toNat_natCast → zc42
open Nat renaming le_refl → zc49
open Decidable renaming not_not → zc51
noncomputable section
namespace Go.Ma
open Go
theorem zq200 : ∀ {r : List Ls} {c : Ad},c.In → lsIn r → ascF c r = true → ∀ z ∈ r,rank c < rank z.ad
 | [],_,_,_,_,z,hz => by cases hz
 | y :: r,c,hc,hr,h,z,hz => by
  unfold ascF at h
  simp only [zc4,decide_eq_true_eq] at h
  have hy := hr y (by simp)
  have h1 := (zq956 hc hy.1).1.1 h.1
  rcases zc28.1 hz with rfl | hz
  ·exact h1
  ·have := zq200 hy.1 (fun x hx => hr x (by simp [hx])) h.2 z hz
   omega
theorem zq204 : ∀ {l : List Ls},lsIn l → (ascL l = true ↔ l.Pairwise fun x y => rank x.ad < rank y.ad)
 | [],_ => by simp [ascL]
 | x :: r,h => by
  have hx := h x (by simp)
  have hr : lsIn r := fun y hy => h y (by simp [hy])
  rw [zc47,← zq204 hr]
  constructor
  ·intro h1
   have h1 : ascF x.ad r = true := h1
   refine ⟨zq200 hx.1 hr h1,?_⟩
   cases r with
   | nil => rfl
   | cons y r =>
    unfold ascF at h1
    simp only [zc4] at h1
    exact h1.2
  ·rintro ⟨h1,h2⟩
   show ascF x.ad r = true
   cases r with
   | nil => rfl
   | cons y r =>
    unfold ascF
    simp only [zc4,decide_eq_true_eq]
    exact ⟨(zq956 hx.1 (hr y (by simp)).1).1.2 (h1 y (by simp)),h2⟩
theorem zq778 {l : List Ls} (h : lsIn l) (now : Int) : lsIn (live l now) := fun x hx => h x (List.mem_filter.1 hx).1
theorem zq777 {l : List Ls} (h : lsIn l) (ha : ascL l = true) (now : Int) : ascL (live l now) = true := (zq204 (zq778 h now)).2 (((zq204 h).1 ha).filter _)
def posF (a : Ad) (b : List Ls) : Nat := (b.takeWhile fun y => decide (ordA y.ad a < 0)).length
theorem zq1023 (a : Ad) (b : List Ls) : posF a b ≤ b.length := (List.takeWhile_sublist _).length_le
theorem zq1026 {a : Ad} (ha : a.In) : ∀ {b : List Ls},lsIn b → ascL b = true → ∀ {h : Nat} {x : Ls},b[h]? = some x → (ordA x.ad a < 0 ↔ h < posF a b)
 | [],_,_,_,_,hx => by simp at hx
 | y :: r,hb,hs,h,x,hx => by
  have hy := hb y (by simp)
  have hr : lsIn r := fun z hz => hb z (by simp [hz])
  have hrs : ascL r = true := (zq204 hr).2 (zc47.1 ((zq204 hb).1 hs)).2
  have hyr := (zc47.1 ((zq204 hb).1 hs)).1
  unfold posF
  rw [List.takeWhile_cons]
  by_cases ho : ordA y.ad a < 0
  ·simp only [ho,decide_true,if_true,zc21]
   cases h with
   | zero =>
    simp only [zc13,zc2] at hx
    subst hx
    simp [ho]
   | succ h =>
    have := zq1026 ha hr hrs (h := h) (x := x) (by simpa using hx)
    unfold posF at this
    omega
  ·simp only [ho,decide_false,zc16,if_false,zc32]
   cases h with
   | zero =>
    simp only [zc13,zc2] at hx
    subst hx
    simp [ho]
   | succ h =>
    have hx' : r[h]? = some x := by simpa using hx
    have hm := zc5 hx'
    have h1 := hyr x hm
    have h2 := (zq956 hy.1 ha).1
    have h3 := (zq956 (hr x hm).1 ha).1
    constructor
    ·intro h4
     have := h3.1 h4
     have : ¬ rank y.ad < rank a := fun h => ho (h2.2 h)
     omega
    ·intro h4; omega
theorem zq499 (i j : Nat) (h : i + j < 9223372036854775808) : convI .i64 (aop .shr .u64 (convI .u64 ((i : Int) + (j : Int))) 1) = (((i + j) / 2 : Nat) : Int) := by
 unfold convI
 rw [wrap_u64 (by omega) (by omega)]
 have e1 : aop .shr .u64 ((i : Int) + (j : Int)) 1 = (((i + j) / 2 : Nat) : Int) := by
  simp only [aop,IntKind.bits]
  rw [show ((2 : Int) ^ (min ((1 : Int).toNat) 64)) = 2 from rfl,Int.fdiv_eq_ediv_of_nonneg _ (by omega)]
  omega
 rw [e1]
 exact wrap_i64 (by omega) (by omega)
abbrev DR := List Ad × List Ls × (Bool × Int × Int × Int × Unit) × (ByteArray × Unit) × List Ls × (Ad × Unit) × List Ls × (Bool × Int × Int × Int × Unit) × (Ad × Unit) × (Ls × Unit) × (Ls × Unit) × Unit
theorem zq236 {kp : List Ad} {l b g : List Ls} (q q' : Bool × Int × Int × Int × Unit) (who : ByteArray) (ga a0 : Ad) (x x2 : Ls) (hx : x2.ad.In) (hb : lsIn b) (hs : ascL b = true) (hlen : b.length ≤ 1048576) (n : Int) :
  ∀ (N i j : Nat),j - i < N → i ≤ posF x2.ad b → posF x2.ad b ≤ j → j ≤ b.length →
   loopN zq727 N (((),(),(),(n,()),((i : Int),()),((j : Int),()),()),((kp,l,q,(who,()),g,(ga,()),b,q',(a0,()),(x,()),(x2,()),()) : DR)) =
    some (((),(),(),(n,()),(((posF x2.ad b : Nat) : Int),()),()),(kp,l,q,(who,()),g,(ga,()),b,q',(a0,()),(x,()),(x2,()),()))
 | 0,_,_,h,_,_,_ => by omega
 | N + 1,i,j,hN,h1,h2,h3 => by
  rw [zq789]
  simp only [zq727]
  obtain ⟨q1,q2,q3,q4,_⟩ := q
  obtain ⟨r1,r2,r3,r4,_⟩ := q'
  by_cases hij : i < j
  ·have hh : (i + j) / 2 < b.length := by omega
   obtain ⟨e,he⟩ : ∃ e,b[(i + j) / 2]? = some e := ⟨_,zc0 hh⟩
   have hp := zq1026 hx hb hs he
   rw [decide_eq_true (show (i : Int) < (j : Int) by omega),zq235,zq1187 (zq519 (by omega) (by omega))]
   simp only [zq499 i j (by omega)]
   rw [zq1187 (zq525 (by omega) (by unfold lenL; omega)),zq471 he,zq220,zq720,zq105,zq220,zq220]
   by_cases ho : ordA e.ad x2.ad < 0
   ·have := hp.1 ho
    simp only [ho,decide_true,zq235]
    rw [show (((i + j) / 2 : Nat) : Int) + 1 = (((i + j) / 2 + 1 : Nat) : Int) by omega,zq1187 (zq519 (by omega) (by omega))]
    exact zq236 _ _ who ga a0 x x2 hx hb hs hlen n N ((i + j) / 2 + 1) j (by omega) (by omega) h2 h3
   ·have : ¬ (i + j) / 2 < posF x2.ad b := fun h => ho (hp.2 h)
    simp only [ho,decide_false,zq233]
    exact zq236 _ _ who ga a0 x x2 hx hb hs hlen n N i ((i + j) / 2) (by omega) h1 (by omega) (by omega)
  ·have : posF x2.ad b = i := by omega
   rw [decide_eq_false (show ¬ (i : Int) < (j : Int) by omega),zq233,this]
theorem zq237 : zq726 = zq727 := rfl
abbrev DW := List Ad × List Ls × (Bool × Int × Int × Int × Unit) × (ByteArray × Unit) × List Ls × (Ad × Unit) × List Ls × (Bool × Int × Int × Int × Unit) × Unit
def rwOut (d : DW) : Option Nat → (((Int × Unit) × Unit) × DW) ⊕ ((Unit) × DW)
 | some k => Sum.inl ((((k : Int),()),()),d)
 | none => Sum.inr ((),d)
theorem zq1222 (p : Pf) (kp : List Ad) (l : List Ls) {b : List Ls} (hlen : b.length ≤ 1048576) (who : ByteArray) :
  loopN zq733 FUEL (((),(),(lenL b,()),(0,()),()),(kp,l,(p.ad.v6,p.ad.hi,p.ad.lo,p.bits,()),(who,()),([] : List Ls),((⟨false,0,0⟩ : Ad),()),b,(p.ad.v6,p.ad.hi,p.ad.lo,p.bits,()),())) =
   some (rwOut (kp,l,(p.ad.v6,p.ad.hi,p.ad.lo,p.bits,()),(who,()),([] : List Ls),((⟨false,0,0⟩ : Ad),()),b,(p.ad.v6,p.ad.hi,p.ad.lo,p.bits,()),()) (zq413 (whoP who) b)) := by
 have := zq792 (step := zq733) (fun i => (((),(),(lenL b,()),((i : Int),()),()),((kp,l,(p.ad.v6,p.ad.hi,p.ad.lo,p.bits,()),(who,()),([] : List Ls),((⟨false,0,0⟩ : Ad),()),b,(p.ad.v6,p.ad.hi,p.ad.lo,p.bits,()),()) : DW))) b.length
  (fun i => some (rwOut (kp,l,(p.ad.v6,p.ad.hi,p.ad.lo,p.bits,()),(who,()),([] : List Ls),((⟨false,0,0⟩ : Ad),()),b,(p.ad.v6,p.ad.hi,p.ad.lo,p.bits,()),()) ((zq413 (whoP who) (b.drop i)).map (· + i)))) (fun rec i hi hr => ?_) (fun rec => ?_) FUEL 0 (Nat.zero_le _) (zq463 (by omega))
 ·rw [List.drop_zero,show (fun x => x + 0) = (id : Nat → Nat) from rfl,Option.map_id] at this
  exact this
 ·obtain ⟨e,he⟩ : ∃ e,b[i]? = some e := ⟨_,zc0 hi⟩
  simp only [zq733]
  rw [decide_eq_true (show (i : Int) < lenL b by unfold lenL; omega),zq235,zq1187 (zq525 (by omega) (by unfold lenL; omega)),zq471 he,zq220,zq715,zq220,zq415 he,zq1478]
  unfold whoP
  by_cases hc : e.who = who
  ·simp only [hc,decide_true,zq235,if_true]
   rfl
  ·simp only [hc,decide_false,zq233]
   rw [show ((i : Int) + 1) = ((i + 1 : Nat) : Int) by omega,zq1187 (zq519 (by omega) (by omega)),hr]
   rfl
 ·simp only [zq733]
  rw [decide_eq_false (show ¬ (b.length : Int) < lenL b by unfold lenL; omega),zq233,zc18 (zc49 _)]
  rfl
def insAt (b : List Ls) (x : Ls) : List Ls := b.take (posF x.ad b) ++ x :: b.drop (posF x.ad b)
def zq594 (b : List Ls) (k : Nat) (u : Int) : List Ls × Ad × Bool × Unit := match b[k]? with | some e => (b.set k ⟨e.ad,e.who,u⟩,e.ad,true,()) | none => ([],⟨false,0,0⟩,false,())
def zq1110 (b : List Ls) (who : ByteArray) (u : Int) : Option Ad → List Ls × Ad × Bool × Unit
 | some a => (insAt b ⟨a,who,u⟩,a,true,())
 | none => ([],⟨false,0,0⟩,false,())
def rawOf (p : Pf) (kp : List Ad) (b : List Ls) (who : ByteArray) (u : Int) : List Ls × Ad × Bool × Unit :=
 match zq413 (whoP who) b with
 | some k => zq594 b k u
 | none => zq1110 b who u (zq460 p kp b)
theorem zq84 {p : Pf} (n4 : p.ad.num + 2 ^ zq459 p ≤ 2 ^ wid p.ad.v6) {i : Nat} (h : i < 2 ^ zq459 p) : (addrI p i).In ∧ chkA (addrI p i) = 0 := ⟨zq880 (by omega),zq879 (by omega)⟩
theorem zq461 {p : Pf} {kp : List Ad} {b : List Ls} {a : Ad} (h : zq460 p kp b = some a) : (∃ i,i < 2 ^ zq459 p ∧ a = addrI p i) ∧ zq1513 kp b a = false := by
 unfold zq460 at h
 have h1 := List.mem_of_find?_eq_some h
 have h2 := List.find?_some h
 obtain ⟨i,hi,rfl⟩ := List.mem_map.1 h1
 exact ⟨⟨i,List.mem_range.1 hi,rfl⟩,by simpa using h2⟩
theorem zq724 {p : Pf} (hp : p.In) {kp : List Ad} {l : List Ls} (h : lsIn l) {now ttl : Int} (hc : zq276 p kp = 0) (ha : allC l now = 0) (hu : -9223372036854775808 ≤ now + ttl) (hu' : now + ttl < 9223372036854775808) (who : ByteArray) :
  zq739 p kp l who now ttl = some (rawOf p kp (live l now) who (now + ttl)) := by
 obtain ⟨a1,a2,a3,a4⟩ := zq167 ha
 obtain ⟨c1,c2,c3⟩ := zq278 hc
 have hll := zq779 l now
 unfold zq739
 rw [zq681 (by omega) now,zq220]
 have hbs := zq777 h a3 now
 have hbi := zq778 h now
 generalize live l now = b at hll hbs hbi ⊢
 obtain ⟨n1,n2,n3,n4⟩ := zq832 hp c1 c2
 rw [zq1222 p kp l (show b.length ≤ 1048576 by omega) who,zq220]
 unfold rawOf
 have hin : ∀ a,zq460 p kp b = some a → a.In := fun a hf => by
  obtain ⟨⟨i,hi,rfl⟩,_⟩ := zq461 hf
  exact (zq84 n4 hi).1
 have hf := zq422 hp c1 c2 (kp := kp) (by omega) (b := b) (by omega)
 have hfu : b.length - 0 < FUEL := by have : FUEL = 18446744073709551616 := rfl; omega
 have hroom : ∀ a : Ad,(decide ((0 : Int) ≤ ((posF a b : Nat) : Int)) && decide (((posF a b : Nat) : Int) ≤ lenL b) && room (lenL b) 1) = true := fun a => by
  have := zq1023 a b
  rw [decide_eq_true (show (0 : Int) ≤ ((posF a b : Nat) : Int) by omega),decide_eq_true (show ((posF a b : Nat) : Int) ≤ lenL b by unfold lenL; omega),zq1201 (zq765 _) (by omega) (by unfold lenL; omega)]
  rfl
 have hpick : ∀ (a : Ad) (x : Ls),x.ad = a → (br (decide (((posF a b : Nat) : Int) < lenL b)) (req (zq523 ((posF a b : Nat) : Int) (lenL b)) ((geti b ((posF a b : Nat) : Int)).bind fun p6 => (zq720 p6 x).bind fun y7 => some (((posF a b : Nat) : Int),decide (y7.1 = 0),()))) (some (((posF a b : Nat) : Int),false,()))) =
   some (((posF a b : Nat) : Int),(br (decide (((posF a b : Nat) : Int) < lenL b)) ((geti b ((posF a b : Nat) : Int)).bind fun p6 => (zq720 p6 x).bind fun y7 => some (decide (y7.1 = 0))) (some false)).getD false,()) := fun a x hx => by
  by_cases hlt : posF a b < b.length
  ·obtain ⟨e,he⟩ : ∃ e,b[posF a b]? = some e := ⟨_,zc0 hlt⟩
   rw [decide_eq_true (show ((posF a b : Nat) : Int) < lenL b by unfold lenL; omega),zq235,zq1187 (zq525 (by omega) (by unfold lenL; omega)),zq471 he,zq220,zq720,zq105,zq220,zq220,zq235,zq220,zq720,zq105,zq220,zq220]
   rfl
  ·rw [decide_eq_false (show ¬ ((posF a b : Nat) : Int) < lenL b by unfold lenL; omega),zq233,zq233]
   rfl
 cases hfw : zq413 (whoP who) b with
 | some k =>
  have hk := zq416 hfw
  obtain ⟨e,he⟩ : ∃ e,b[k]? = some e := ⟨_,zc0 hk⟩
  have r1 : zq523 (k : Int) (lenL b) = true := zq525 (by omega) (by unfold lenL; omega)
  have r2 : zq523 (k : Int) (lenL (seti b (k : Int) (⟨e.ad,e.who,now + ttl⟩ : Ls))) = true := zq525 (by omega) (by unfold lenL seti; simp only [List.length_set]; omega)
  have hg : geti (seti b (k : Int) (⟨e.ad,e.who,now + ttl⟩ : Ls)) (k : Int) = some ⟨e.ad,e.who,now + ttl⟩ := by
   rw [zq472]
   simp [seti,hk]
  simp only [rwOut,sumC]
  rw [decide_eq_true (show (k : Int) ≥ 0 by omega),zq235,zq1187 (zq519 hu hu')]
  simp only [r1,zq1189,zq471 he,zq220,r2,hg]
  unfold zq594
  rw [he]
  simp [seti]
 | none =>
  simp only [rwOut,sumC]
  show (zq23 p kp b).bind _ = _
  rw [hf,zq220]
  cases hfo : zq460 p kp b with
  | none => rfl
  | some a =>
   simp only [zq454,zc10,zq233]
   rw [zq1187 (zq519 hu hu')]
   have hl := zq236 (kp := kp) (l := l) (g := ([] : List Ls)) (p.ad.v6,p.ad.hi,p.ad.lo,p.bits,()) (p.ad.v6,p.ad.hi,p.ad.lo,p.bits,()) who ⟨false,0,0⟩ a ⟨a,who,now + ttl⟩ ⟨a,who,now + ttl⟩ (hin a hfo) hbi hbs (by omega) (lenL b) FUEL 0 b.length hfu (Nat.zero_le _) (zq1023 _ _) (zc49 _)
   rw [show ((0 : Nat) : Int) = 0 from rfl,show ((b.length : Nat) : Int) = lenL b from rfl] at hl
   rw [zq237,hl,zq220,hpick a ⟨a,who,now + ttl⟩ rfl,zq220]
   simp only [hroom a,zq1189,zq370,zq231]
   unfold zq1110 insAt insL
   simp
def zq485 (p : Pf) (kp : List Ad) (l : List Ls) (who : ByteArray) (now ttl : Int) : List Ls × Ad × Int × Unit :=
 if chkOf p kp l now ≠ 0 then ([],⟨false,0,0⟩,chkOf p kp l now,()) else if whoOk who = false then ([],⟨false,0,0⟩,1,()) else if betw ttl 1 500 = false then ([],⟨false,0,0⟩,3,())
 else if (rawOf p kp (live l now) who (now + ttl)).2.2.1 = false then ([],⟨false,0,0⟩,8,()) else ((rawOf p kp (live l now) who (now + ttl)).1,(rawOf p kp (live l now) who (now + ttl)).2.1,0,())
theorem zq272 {p : Pf} {kp : List Ad} {l : List Ls} {now : Int} (h : chkOf p kp l now = 0) : zq276 p kp = 0 ∧ allC l now = 0 ∧ ofF p [] l = 0 := by
 unfold chkOf at h
 split at h
 ·rename_i h1; exact absurd h h1
 split at h
 ·rename_i h1; exact absurd h h1
 ·rename_i h1 h2
  exact ⟨zc51.1 h1,zc51.1 h2,h⟩
end Go.Ma
namespace Go.Ma
open Go
end Go.Ma
namespace Go.Ma
open Go
def splF (c : UInt8) : List UInt8 → List UInt8 → List (List UInt8)
 | _,[] => []
 | w,x :: r => if x = c then w :: splF c [] r else splF c (w ++ [x]) r
def splW (c : UInt8) : List UInt8 → List UInt8 → List UInt8
 | w,[] => w
 | w,x :: r => if x = c then splW c [] r else splW c (w ++ [x]) r
def splL (c : UInt8) (w s : List UInt8) : List (List UInt8) := splF c w s ++ [splW c w s]
theorem zq1328 (c : UInt8) (w : List UInt8) : splL c w [] = [w] := rfl
theorem zq1324 (c : UInt8) (w r : List UInt8) : splL c w (c :: r) = w :: splL c [] r := by simp [splL,splF,splW]
theorem zq1326 {c x : UInt8} (h : x ≠ c) (w r : List UInt8) : splL c w (x :: r) = splL c (w ++ [x]) r := by simp [splL,splF,splW,h]
theorem zq1327 (c : UInt8) (w s : List UInt8) : splL c w s ≠ [] := by simp [splL]
theorem zq1323 (c : UInt8) : ∀ (s w : List UInt8),c ∉ w → ∀ x ∈ splL c w s,c ∉ x
 | [],w,h,x,hx => by
  rw [zq1328,zc39] at hx
  subst hx
  exact h
 | y :: r,w,h,x,hx => by
  by_cases hy : y = c
  ·subst hy
   rw [zq1324] at hx
   rcases zc28.1 hx with rfl | hx
   ·exact h
   ·exact zq1323 y r [] (by simp) x hx
  ·rw [zq1326 hy] at hx
   refine zq1323 c r _ ?_ x hx
   intro hm
   rcases zc36.1 hm with hm | hm
   ·exact h hm
   ·rw [zc39] at hm
    exact hy hm.symm
theorem zq1325 (c : UInt8) : ∀ (s w : List UInt8),Lib.join (splL c w s) [c] = w ++ s
 | [],w => by rw [zq1328,Lib.join_one,List.append_nil]
 | y :: r,w => by
  by_cases hy : y = c
  ·subst hy
   rw [zq1324]
   have := zq1325 y r []
   cases hs : splL y [] r with
   | nil => exact absurd hs (zq1327 _ _ _)
   | cons a l =>
    rw [hs] at this
    rw [zq587,this]
    rfl
  ·rw [zq1326 hy,zq1325 c r,zc48]
   rfl
theorem zq1337 (c : UInt8) (s : List UInt8) : zq1332 ⟨s.toArray⟩ c = (splL c [] s).map zq871 := by
 have := zq1339 c (zq1327 c [] s) (zq1323 c s [] (by simp))
 rw [zq1325,zc44] at this
 exact this
theorem zq872 (s : ByteArray) : zq871 s.data.toList = s := by
 apply ByteArray.ext
 simp [zq871]
theorem zq1333 (c : UInt8) (s : ByteArray) : zq1332 s c = (splL c [] s.data.toList).map zq871 := by
 exact zq1337 c s.data.toList
theorem zq1330 (c : UInt8) : ∀ (s w : List UInt8),∀ x ∈ splL c w s,x.length ≤ w.length + s.length
 | [],w,x,hx => by
  rw [zq1328,zc39] at hx
  subst hx
  simp
 | y :: r,w,x,hx => by
  by_cases hy : y = c
  ·subst hy
   rw [zq1324] at hx
   rcases zc28.1 hx with rfl | hx
   ·omega
   ·have := zq1330 y r [] x hx
    simp only [zc21,zc32] at this ⊢
    omega
  ·rw [zq1326 hy] at hx
   have := zq1330 c r _ x hx
   simp only [zc21,zc24,zc32] at this ⊢
   omega
theorem zq1329 {c : UInt8} : ∀ {s w : List UInt8},c ∉ s → splL c w s = [w ++ s]
 | [],w,_ => by rw [zq1328,List.append_nil]
 | y :: r,w,h => by
  have h1 : y ≠ c := fun e => h (by simp [e])
  have h2 : c ∉ r := fun e => h (by simp [e])
  rw [zq1326 h1,zq1329 h2,zc48]
  rfl
theorem zq352 {b : UInt8} {d : Nat} (h : Lib.digitVal b = some d) : d < 10 ∧ b = UInt8.ofNat (48 + d) ∧ b.toNat = 48 + d := by
 unfold Lib.digitVal at h
 split at h
 ·rename_i hb
  injection h with h
  refine ⟨by omega,?_,by omega⟩
  apply UInt8.toNat_inj.1
  rw [UInt8.toNat_ofNat']
  omega
 ·cases h
end Go.Ma
namespace Go.Ma
open Go
def zrow : List Nat → Nat
 | [] => 0
 | g :: r => if g = 0 then zrow r + 1 else 0
theorem zq1645 : ∀ l,zrow l ≤ l.length
 | [] => zc49 _
 | g :: r => by
  unfold zrow
  have := zq1645 r
  split <;> simp only [zc21] <;> omega
theorem zq1644 : ∀ {l : List Nat} {m : Nat},m ≤ l.length → (∀ j,j < m → l[j]? = some 0) → (m < l.length → l[m]? ≠ some 0) → zrow l = m
 | [],m,h,_,_ => by simp at h; subst h; rfl
 | g :: r,0,_,_,h => by
  have := h (by simp)
  unfold zrow
  rw [if_neg (fun e => this (by simp [e]))]
 | g :: r,m + 1,hm,h0,h => by
  have hg := h0 0 (by omega)
  unfold zrow
  rw [if_pos (by simpa using hg),zq1644 (by simpa using hm) (fun j hj => by simpa using h0 (j + 1) (by omega)) (fun hl => by simpa using h (by simpa using hl))]
theorem zq1646 : ∀ {l : List Nat} {j : Nat},j < zrow l → l[j]? = some 0
 | [],j,h => by simp [zrow] at h
 | g :: r,j,h => by
  unfold zrow at h
  split at h
  ·rename_i hg
   cases j with
   | zero => simp [hg]
   | succ j => simpa using zq1646 (l := r) (j := j) (by omega)
  ·omega
def lngF (gs : List Nat) : Nat → Nat → Int × Nat → Int × Nat
 | 0,_,y => y
 | k + 1,i,y => lngF gs k (i + 1) (if y.2 < zrow (gs.drop i) then ((i : Int),zrow (gs.drop i)) else y)
theorem zq784 (gs : List Nat) (h8 : gs.length = 8) : ∀ (k i : Nat) (x : Int) (m : Nat),i + k ≤ 8 → 1 ≤ m → (2 ≤ m → ∃ q : Nat,x = (q : Int) ∧ q + m ≤ 8 ∧ m ≤ zrow (gs.drop q)) →
  2 ≤ (lngF gs k i (x,m)).2 → ∃ q : Nat,(lngF gs k i (x,m)).1 = (q : Int) ∧ q + (lngF gs k i (x,m)).2 ≤ 8 ∧ (lngF gs k i (x,m)).2 ≤ zrow (gs.drop q)
 | 0,i,x,m,_,_,h,h2 => h h2
 | k + 1,i,x,m,hk,h1,h,h2 => by
  unfold lngF at h2 ⊢
  simp only at h2 ⊢
  by_cases hc : m < zrow (gs.drop i)
  ·rw [if_pos hc] at h2 ⊢
   refine zq784 gs h8 k (i + 1) _ _ (by omega) (by omega) (fun _ => ⟨i,rfl,?_,zc49 _⟩) h2
   have := zq1645 (gs.drop i)
   rw [zc41] at this
   omega
  ·rw [if_neg hc] at h2 ⊢
   exact zq784 gs h8 k (i + 1) x m (by omega) h1 h h2
end Go.Ma
namespace Go.Ma
open Go
theorem catB (x y : List UInt8) : catS (zq871 x) (zq871 y) = zq871 (x ++ y) := zq256 x y
theorem roomB (x : List UInt8) (h : x.length ≤ 9223372036854775807) : roomS (zq871 x) = true := zq1200 x h
theorem zq873 {x y : List UInt8} (h : zq871 x = zq871 y) : x = y := by
 have := congrArg (fun s : ByteArray => s.data.toList) h
 simpa [zq871] using this
end Go.Ma
namespace Go.Ma
open Go
end Go.Ma
namespace Go.Ma
open Go
theorem zq495 (a : Ad) : (gsA a).length = 8 := by simp [gsA]
theorem zq494 (a : Ad) {i : Nat} (h : i < 8) : (gsA a)[i]? = some (gI a i) := by simp [gsA,h]
theorem row_z {a : Ad} (h : a.wf) {f : Nat} (hf : f ≤ 8) : zq152 a f = some (((zrow ((gsA a).drop f) : Nat) : Int),()) := by
 obtain ⟨m,m1,m2,m3,m4⟩ := zq1204 h hf
 rw [m4]
 have : zrow ((gsA a).drop f) = m := zq1644 (by rw [zc41,zq495]; omega) (fun j hj => by rw [zc40,zq494 a (by omega),m2 j hj]) (fun hl => by
  rw [zc41,zq495] at hl
  rw [zc40,zq494 a (by omega)]
  intro he
  exact m3 (by omega) (Option.some.inj he))
 rw [this]
theorem zq787 {a : Ad} (h : a.wf) : ∀ (N k i : Nat) (x : Int) (m : Nat),k < N → i + k = 8 →
  loopN zq137 N (((),(x,()),((m : Int),()),((i : Int),()),()),((a,()),())) = some ((((lngF (gsA a) k i (x,m)).1,()),(((lngF (gsA a) k i (x,m)).2 : Int),()),()),()) := by
 intro N
 induction N with
 | zero => intro k i x m h; omega
 | succ N ih =>
  intro k i x m hk hi
  rw [zq789]
  simp only [zq137]
  cases k with
  | zero =>
   rw [decide_eq_false (show ¬ (i : Int) < 8 by omega),zq233]
   rfl
  | succ k =>
   rw [decide_eq_true (show (i : Int) < 8 by omega),zq235,row_z h (by omega),zq220]
   simp only []
   unfold lngF
   simp only
   by_cases hz : m < zrow ((gsA a).drop i)
   ·rw [decide_eq_true (show ((zrow ((gsA a).drop i) : Nat) : Int) > (m : Int) by omega),zq235,if_pos hz,zq1187 (zq519 (by omega) (by omega)),show (i : Int) + 1 = ((i + 1 : Nat) : Int) by omega]
    exact ih k (i + 1) _ _ (by omega) (by omega)
   ·rw [decide_eq_false (show ¬ ((zrow ((gsA a).drop i) : Nat) : Int) > (m : Int) by omega),zq233,if_neg hz,zq1187 (zq519 (by omega) (by omega)),show (i : Int) + 1 = ((i + 1 : Nat) : Int) by omega]
    exact ih k (i + 1) _ _ (by omega) (by omega)
def lngA (a : Ad) : Int × Nat := lngF (gsA a) 8 0 (0,1)
def zq1517 (a : Ad) : List UInt8 := if (lngA a).2 < 2 then joinG (gsA a) else joinG ((gsA a).take (lngA a).1.toNat) ++ [58,58] ++ joinG ((gsA a).drop ((lngA a).1.toNat + (lngA a).2))
theorem zq783 {a : Ad} (h : 2 ≤ (lngA a).2) : ∃ q : Nat,(lngA a).1 = (q : Int) ∧ Row0 a q (lngA a).2 := by
 obtain ⟨q,q1,q2,q3⟩ := zq784 (gsA a) (zq495 a) 8 0 0 1 (by omega) (by omega) (fun h => by omega) h
 refine ⟨q,q1,q2,fun j hj => ?_⟩
 have := zq1646 (Nat.lt_of_lt_of_le hj q3)
 have h8 : (lngA a).2 = (lngF (gsA a) 8 0 (0,1)).2 := rfl
 rw [zc40,zq494 a (by omega)] at this
 exact Option.some.inj this
theorem zq18 {a : Ad} (h : a.wf) (hv : a.v6 = true) : zq122 a = some (zq871 (zq1517 a),()) := by
 rw [zq1548 hv]
 have hl := zq787 h FUEL 8 0 0 1 (zq463 (by omega)) (by omega)
 have hl : loopN zq137 FUEL (((),((0 : Int),()),((1 : Int),()),((0 : Int),()),()),((a,()),())) = some ((((lngA a).1,()),(((lngA a).2 : Int),()),()),()) := hl
 unfold zq144
 rw [hl,zq220]
 simp only []
 unfold zq1517
 by_cases h2 : (lngA a).2 < 2
 ·rw [decide_eq_true (show ((lngA a).2 : Int) < 2 by omega),zq235,zq220,zq1522 h,if_pos h2]
  rfl
 ·obtain ⟨q,q1,q2⟩ := zq783 (a := a) (by omega)
  rw [decide_eq_false (show ¬ ((lngA a).2 : Int) < 2 by omega),zq233,zq220,if_neg h2,q1,zq1523 h (by omega) q2,zc42]
  rfl
def textA (a : Ad) : List UInt8 := if a.v6 then zq1517 a else text4 a.lo.toNat
theorem zq19 {a : Ad} (h : a.wf) : zq122 a = some (zq871 (textA a),()) := by
 unfold textA
 cases hv : a.v6
 ·rw [zq1565 h hv]
  rfl
 ·rw [zq18 h hv]
  rfl
end Go.Ma
namespace Go.Ma
open Go
theorem zq515 {p : Pf} (hp : p.In) (cp : chkP p = 0) (hn : ((wid p.ad.v6 : Nat) : Int) - p.bits ≤ 4) {i : Nat} : holds p (addrI p i) = decide (i < 2 ^ zq459 p) := by
 obtain ⟨n1,n2,n3,n4⟩ := zq832 hp cp hn
 have hpp := Nat.two_pow_pos (zq459 p)
 unfold holds addrI
 rw [show (ofNum p.ad.v6 (p.ad.num + i)).v6 = p.ad.v6 from rfl,beq_self_eq_true,Bool.true_and]
 refine decide_eq_decide.2 ?_
 unfold cutA
 rw [zq866,show (ofNum p.ad.v6 (p.ad.num + i)).v6 = p.ad.v6 from rfl]
 show ofNum p.ad.v6 (cutN (p.ad.num + i) (zq459 p)) = p.ad ↔ _
 have hq : cutN (p.ad.num + i) (zq459 p) = p.ad.num ↔ i < 2 ^ zq459 p := by
  unfold cutN
  obtain ⟨m,hm⟩ := Nat.dvd_of_mod_eq_zero n3
  rw [hm,Nat.mul_add_div hpp]
  constructor
  ·intro h
   have h1 : i / 2 ^ zq459 p = 0 := by
    rw [Nat.mul_comm (2 ^ zq459 p) m] at h
    have := Nat.eq_of_mul_eq_mul_right hpp h
    omega
   rcases Nat.div_eq_zero_iff.1 h1 with h2 | h2
   ·omega
   ·exact h2
  ·intro h
   rw [Nat.div_eq_of_lt h,Nat.add_zero,Nat.mul_comm]
 rw [← hq]
 constructor
 ·intro h
  have := congrArg Ad.num h
  rwa [zq866] at this
 ·intro h
  rw [h,zq882 _ hp.1.wf]
end Go.Ma
namespace Go.Ma
open Go
def quadP : Pf := ⟨⟨false,0,8⟩,30⟩
theorem zq1149 : quadP.In := ⟨⟨⟨by decide,by decide⟩,by decide,by decide⟩,by decide,by decide⟩
theorem zq601 : adIn [⟨false,0,8⟩] := fun a ha => by
 simp only [zc39] at ha
 subst ha
 exact ⟨⟨by decide,by decide⟩,by decide,by decide⟩
def wx : ByteArray := ⟨#[120]⟩
theorem wx_in : strIn wx := by unfold strIn maxLen; decide
theorem zq782 {l : List Ls} {now : Int} {x : Ls} (h : x ∈ live l now) : x ∈ l ∧ now ≤ x.upto := ⟨(List.mem_filter.1 h).1,by have := (List.mem_filter.1 h).2; simpa [liveP] using this⟩
theorem zq802 : lsIn [] := fun x hx => by cases hx
theorem zq269 : ∀ {l : List Ls},(∀ x ∈ l,chkLs x = 0) → zq267 l = 0
 | [],_ => rfl
 | y :: r,h => by
  unfold zq267
  rw [if_neg (fun h' => h' (h y (by simp))),zq269 fun x hx => h x (by simp [hx])]
end Go.Ma
namespace Go.Ma
open Go
end Go.Ma
namespace Go.Ma
open Go
theorem zq1073 {p q : Pf} (hp : chkP p = 0) (hq : chkP q = 0) : zq1075 p q = some (ordP p q,()) := by
 have h1 := zq274 hp
 have h2 := zq274 hq
 have h3 := zq1628 p.ad.v6
 have h4 := zq1628 q.ad.v6
 unfold zq1075 ordP
 rw [zq105,zq220]
 by_cases h : ordA p.ad q.ad = 0
 ·rw [decide_eq_true (show (ordA p.ad q.ad,()).1 = 0 from h),zc10,zq233,if_neg (fun h' => h' h),zq1187 (zq519 (by omega) (by omega))]
 ·rw [decide_eq_false (show ¬ (ordA p.ad q.ad,()).1 = 0 from h),zc19,zq235,if_pos h]
theorem zq1079 {p q : Pf} (cp : chkP p = 0) (hq : q.In) : zq1081 p q = some (over p q,()) := by
 obtain ⟨h1,h2⟩ := zq274 cp
 unfold zq1081 over
 rw [zq1055 h1 h2 hq.1,zq220,br_sb,zq220]
 cases decide (p.bits ≤ q.bits) <;> rfl
end Go.Ma
namespace Go.Ma
open Go
end Go.Ma
namespace Go.Ma
open Go
end Go.Ma
namespace Go.Ma
open Go
end Go.Ma
namespace Go.Ma
open Go
end Go.Ma
namespace Go.Ma
open Go
theorem zq516 {p : Pf} {a : Ad} : holds p a = true ↔ p.ad.v6 = a.v6 ∧ cutA a p.bits = p.ad := by simp [holds]
theorem zq963 {p q : Pf} : over p q = true ↔ p.bits ≤ q.bits ∧ holds p q.ad = true := by simp [over]
end Go.Ma
namespace Go.Ma
open Go
def free (p : Pf) : Nat := wid p.ad.v6 - p.bits.toNat
theorem zq462 {p : Pf} (hp : p.In) (cp : chkP p = 0) : free p ≤ wid p.ad.v6 ∧ p.ad.num % 2 ^ free p = 0 ∧ p.ad.num + 2 ^ free p ≤ 2 ^ wid p.ad.v6 := by
 have h3 : p.ad.num % 2 ^ free p = 0 := (zq302 _ _).1 ((zq300 hp.1.wf p.bits).1 (zq275 cp))
 have h4 := zq1199 p.ad ⟨hp.1.wf,zq273 cp⟩
 have hk : free p ≤ wid p.ad.v6 := by unfold free; omega
 refine ⟨hk,h3,?_⟩
 have h5 : 2 ^ wid p.ad.v6 = 2 ^ free p * 2 ^ (wid p.ad.v6 - free p) := by rw [← Nat.pow_add]; congr 1; omega
 obtain ⟨m,hm⟩ := Nat.dvd_of_mod_eq_zero h3
 rw [hm,h5] at h4 ⊢
 have := Nat.lt_of_mul_lt_mul_left h4
 calc 2 ^ free p * m + 2 ^ free p = 2 ^ free p * (m + 1) := by rw [Nat.mul_add,Nat.mul_one]
  _ ≤ _ := Nat.mul_le_mul_left _ this
theorem zq517 {p : Pf} {a : Ad} (hp : p.In) (cp : chkP p = 0) (ha : a.In) : holds p a = true ↔ p.ad.v6 = a.v6 ∧ p.ad.num ≤ a.num ∧ a.num < p.ad.num + 2 ^ free p := by
 obtain ⟨f1,f2,f3⟩ := zq462 hp cp
 have hpp := Nat.two_pow_pos (free p)
 rw [zq516]
 constructor
 ·rintro ⟨h1,h2⟩
  have h3 : p.ad.num = cutN a.num (free p) := by
   have h4 : (cutA a p.bits).num = cutN a.num (wid a.v6 - p.bits.toNat) := by unfold cutA; rw [zq866]
   rw [h2] at h4
   rw [h4]
   unfold free
   rw [h1]
  unfold cutN at h3
  have := Nat.div_add_mod a.num (2 ^ free p)
  have h5 := Nat.mod_lt a.num hpp
  rw [Nat.mul_comm] at this
  refine ⟨h1,by omega,by omega⟩
 ·rintro ⟨h1,h2,h3⟩
  refine ⟨h1,?_⟩
  obtain ⟨m,hm⟩ := Nat.dvd_of_mod_eq_zero f2
  have h4 : a.num / 2 ^ free p = m := by
   apply Nat.div_eq_of_lt_le
   ·rw [Nat.mul_comm]; omega
   ·rw [Nat.add_mul,Nat.one_mul,Nat.mul_comm]; omega
  unfold cutA cutN
  rw [show wid a.v6 - p.bits.toNat = free p by unfold free; rw [h1],h4,← h1,Nat.mul_comm,← hm,zq882 p.ad hp.1.wf]
theorem zq192 {p q : Pf} (hp : p.In) (hq : q.In) (cp : chkP p = 0) (cq : chkP q = 0) (hv : p.ad.v6 = q.ad.v6) (h1 : q.ad.num ≤ p.ad.num + (2 ^ free p - 1)) (h2 : p.ad.num ≤ q.ad.num + (2 ^ free q - 1)) (hb : p.bits ≤ q.bits) : over p q = true := by
 rw [zq963]
 refine ⟨hb,(zq517 hp cp hq.1).2 ⟨hv,?_,by have := Nat.two_pow_pos (free p); omega⟩⟩
 obtain ⟨_,f2,_⟩ := zq462 hp cp
 obtain ⟨_,g2,_⟩ := zq462 hq cq
 have hle : free q ≤ free p := by unfold free; rw [hv]; omega
 have e : 2 ^ free p = 2 ^ free q * 2 ^ (free p - free q) := by rw [← Nat.pow_add]; congr 1; omega
 obtain ⟨m,hm⟩ := Nat.dvd_of_mod_eq_zero f2
 obtain ⟨k,hk⟩ := Nat.dvd_of_mod_eq_zero g2
 have hpos := Nat.two_pow_pos (free q)
 have hm' : p.ad.num = 2 ^ free q * (2 ^ (free p - free q) * m) := by rw [hm,e,Nat.mul_assoc]
 rw [hm',hk] at h2 ⊢
 apply Nat.mul_le_mul_left
 apply Nat.le_of_lt_succ
 apply Nat.lt_of_mul_lt_mul_left (a := 2 ^ free q)
 rw [Nat.mul_succ]
 omega
end Go.Ma
namespace Go.Ma
open Go
theorem zq877 (p : Pf) : ∀ (m bf : List Ls),ofF p bf m = 0 ↔ (∀ x ∈ m,holds p x.ad = true) ∧ (∀ y ∈ bf,∀ x ∈ m,y.who ≠ x.who) ∧ m.Pairwise fun x y => x.who ≠ y.who
 | [],bf => by simp [ofF]
 | x :: r,bf => by
  unfold ofF
  by_cases h1 : holds p x.ad = true
  ·rw [if_neg (by simp [h1])]
   by_cases h2 : bf.any (whoP x.who) = true
   ·rw [if_pos h2]
    constructor
    ·intro h; exact absurd h (by decide)
    ·rintro ⟨_,h3,_⟩
     obtain ⟨y,hy,hq⟩ := List.any_eq_true.1 h2
     exact absurd (by simpa [whoP] using hq) (h3 y hy x (by simp))
   ·rw [if_neg h2,zq877 p r (bf ++ [x])]
    have h2' : ∀ y ∈ bf,y.who ≠ x.who := fun y hy he => h2 (List.any_eq_true.2 ⟨y,hy,by simp [whoP,he]⟩)
    constructor
    ·rintro ⟨a1,a2,a3⟩
     refine ⟨fun z hz => ?_,fun y hy z hz => ?_,zc47.2 ⟨fun z hz => a2 x (by simp) z hz,a3⟩⟩
     ·rcases zc28.1 hz with rfl | hz
      ·exact h1
      ·exact a1 z hz
     ·rcases zc28.1 hz with rfl | hz
      ·exact h2' y hy
      ·exact a2 y (by simp [hy]) z hz
    ·rintro ⟨a1,a2,a3⟩
     obtain ⟨b1,b2⟩ := zc47.1 a3
     refine ⟨fun z hz => a1 z (by simp [hz]),fun y hy z hz => ?_,b2⟩
     rcases zc36.1 hy with hy | hy
     ·exact a2 y hy z (by simp [hz])
     ·have : y = x := by simpa using hy
      subst this
      exact b1 z hz
  ·rw [if_pos (by simpa using h1)]
   constructor
   ·intro h; exact absurd h (by decide)
   ·rintro ⟨a1,_⟩; exact absurd (a1 x (by simp)) h1
structure Good (p : Pf) (m : List Ls) : Prop where
 ins : lsIn m
 chk : ∀ x ∈ m,chkLs x = 0
 held : ∀ x ∈ m,holds p x.ad = true
 asc : m.Pairwise fun x y => rank x.ad < rank y.ad
 whos : m.Pairwise fun x y => x.who ≠ y.who
theorem zq484 {p : Pf} {kp : List Ad} {l : List Ls} {now : Int} (h : lsIn l) (hc : chkOf p kp l now = 0) : Good p l := by
 obtain ⟨c1,c2,c3⟩ := zq272 hc
 obtain ⟨a1,a2,a3,a4⟩ := zq167 c2
 obtain ⟨o1,_,o3⟩ := (zq877 p l []).1 c3
 exact ⟨h,a2,o1,(zq204 h).1 a3,o3⟩
theorem Good.live {p : Pf} {l : List Ls} (g : Good p l) (now : Int) : Good p (live l now) :=
 ⟨fun x hx => g.ins x (zq782 hx).1,fun x hx => g.chk x (zq782 hx).1,fun x hx => g.held x (zq782 hx).1,g.asc.filter _,g.whos.filter _⟩
theorem zq202 {lo : Nat} : ∀ {l : List Nat} {hi : Nat},l.Pairwise (· < ·) → (∀ x ∈ l,lo ≤ x ∧ x < hi) → l.length ≤ hi - lo
 | [],_,_,_ => Nat.zero_le _
 | x :: r,hi,h,hb => by
  obtain ⟨h1,h2⟩ := zc47.1 h
  have hx := hb x (by simp)
  have := zq202 (lo := x + 1) (l := r) (hi := hi) h2 fun y hy => ⟨h1 y hy,(hb y (by simp [hy])).2⟩
  simp only [zc21]
  omega
theorem Good.len {p : Pf} {l : List Ls} (g : Good p l) (hp : p.In) (cp : chkP p = 0) (hn : ((wid p.ad.v6 : Nat) : Int) - p.bits ≤ 4) : l.length ≤ 16 := by
 obtain ⟨n1,n2,n3,n4⟩ := zq832 hp cp hn
 have h := zq202 (lo := rank p.ad) (l := l.map fun x => rank x.ad) (hi := rank p.ad + 16) (by rw [List.pairwise_map]; exact g.asc) fun y hy => by
  obtain ⟨x,hx,rfl⟩ := List.mem_map.1 hy
  obtain ⟨s1,s2,s3⟩ := (zq517 hp cp (g.ins x hx).1).1 (g.held x hx)
  have e : free p = zq459 p := rfl
  rw [e] at s3
  unfold rank
  rw [s1]
  omega
 rw [List.length_map] at h
 omega
theorem Good.ok {p : Pf} {l : List Ls} (g : Good p l) {kp : List Ad} (hp : p.In) (hc : zq276 p kp = 0) {now : Int} (ht : betw now 0 9999 = true) : chkOf p kp l now = 0 := by
 obtain ⟨cp,hn,_⟩ := zq278 hc
 have hlen := g.len hp cp hn
 have ha : allC l now = 0 := by
  unfold allC
  rw [if_neg (by omega),zq269 g.chk,if_neg (fun h => h rfl),(zq204 g.ins).2 g.asc,if_neg (by simp),ht,if_neg (by simp)]
 unfold chkOf
 rw [hc,if_neg (fun h => h rfl),ha,if_neg (fun h => h rfl)]
 exact (zq877 p l []).2 ⟨g.held,fun y hy => absurd hy (by simp),g.whos⟩
theorem zq823 {b : List Ls} {k : Nat} {v x : Ls} (h : x ∈ b.set k v) : x ∈ b ∨ x = v := (List.mem_or_eq_of_mem_set h)
theorem zq811 {α : Type} (f : Ls → α) {b : List Ls} {k : Nat} {e v : Ls} (he : b[k]? = some e) (h : f v = f e) : (b.set k v).map f = b.map f := by
 rw [List.map_set,h]
 have hk := (zc1.1 he).1
 have : f e = (b.map f)[k]'(by simpa using hk) := by
  rw [List.getElem_map,(zc1.1 he).2]
 rw [this,List.set_getElem_self]
theorem zq271 {a : Ad} {who : ByteArray} {u : Int} (ca : chkA a = 0) (hw : whoOk who = true) (hu : betw u 0 10499 = true) : chkLs ⟨a,who,u⟩ = 0 := by
 unfold chkLs
 simp only [ca,hw,hu]
 simp
theorem Good.set {p : Pf} {b : List Ls} (g : Good p b) {k : Nat} {e : Ls} (he : b[k]? = some e) {u : Int} (hu : betw u 0 10499 = true) : Good p (b.set k ⟨e.ad,e.who,u⟩) := by
 have hm := zc5 he
 obtain ⟨u1,u2⟩ := zq218.1 hu
 obtain ⟨e1,e2,e3⟩ := zq270 (g.chk e hm)
 obtain ⟨i1,i2,i3⟩ := g.ins e hm
 refine ⟨fun x hx => ?_,fun x hx => ?_,fun x hx => ?_,?_,?_⟩
 ·rcases zq823 hx with hx | rfl
  ·exact g.ins x hx
  ·exact ⟨i1,i2,⟨by show (-9223372036854775808 : Int) ≤ u; omega,by show u < 9223372036854775808; omega⟩⟩
 ·rcases zq823 hx with hx | rfl
  ·exact g.chk x hx
  ·exact zq271 e1 e2 hu
 ·rcases zq823 hx with hx | rfl
  ·exact g.held x hx
  ·exact g.held e hm
 ·have := g.asc
  rw [← List.pairwise_map (f := fun x : Ls => rank x.ad) (R := (· < ·))] at this ⊢
  rwa [zq811 (fun x : Ls => rank x.ad) (v := ⟨e.ad,e.who,u⟩) he rfl]
 ·have := g.whos
  rw [← List.pairwise_map (f := fun x : Ls => x.who) (R := (· ≠ ·))] at this ⊢
  rwa [zq811 (fun x : Ls => x.who) (v := ⟨e.ad,e.who,u⟩) he rfl]
theorem zq821 {b : List Ls} {x y : Ls} : y ∈ insAt b x ↔ y ∈ b ∨ y = x := by
 unfold insAt
 have h := List.take_append_drop (posF x.ad b) b
 rw [zc36,zc28]
 constructor
 ·rintro (h1 | rfl | h1)
  ·exact .inl (List.mem_of_mem_take h1)
  ·exact .inr rfl
  ·exact .inl (List.mem_of_mem_drop h1)
 ·rintro (h1 | rfl)
  ·rw [← h] at h1
   rcases zc36.1 h1 with h2 | h2
   ·exact .inl h2
   ·exact .inr (.inr h2)
  ·exact .inr (.inl rfl)
theorem Good.put {p : Pf} {b : List Ls} (g : Good p b) {a : Ad} (ha : a.In) (ca : chkA a = 0) (hh : holds p a = true) (hfree : ∀ x ∈ b,x.ad ≠ a) {who : ByteArray} (hs : strIn who) (hw : whoOk who = true) (hno : ∀ x ∈ b,x.who ≠ who) {u : Int} (hu : betw u 0 10499 = true) :
  Good p (insAt b ⟨a,who,u⟩) := by
 obtain ⟨u1,u2⟩ := zq218.1 hu
 have hsplit := List.take_append_drop (posF a b) b
 have hasc := g.asc
 have hwhos := g.whos
 rw [← hsplit,List.pairwise_append] at hasc hwhos
 have hpos := fun (h : Nat) (x : Ls) (hx : b[h]? = some x) => zq1026 ha g.ins ((zq204 g.ins).2 g.asc) hx
 have hlo : ∀ y ∈ b.take (posF a b),rank y.ad < rank a := fun y hy => by
  obtain ⟨i,hi⟩ := List.getElem?_of_mem hy
  have hi2 : i < posF a b := by
   have := (zc1.1 hi).1
   simp at this
   omega
  rw [List.getElem?_take_of_lt hi2] at hi
  exact (zq956 (g.ins y (zc5 hi)).1 ha).1.1 ((hpos i y hi).2 hi2)
 have hhi : ∀ y ∈ b.drop (posF a b),rank a < rank y.ad := fun y hy => by
  obtain ⟨i,hi⟩ := List.getElem?_of_mem hy
  rw [zc40] at hi
  have hm := zc5 hi
  have h1 : ¬ rank y.ad < rank a := fun h => by
   have := (hpos _ y hi).1 ((zq956 (g.ins y hm).1 ha).1.2 h)
   omega
  have h2 : rank y.ad ≠ rank a := fun h => hfree y hm (zq1153 (g.ins y hm).1 ha h)
  omega
 refine ⟨fun x hx => ?_,fun x hx => ?_,fun x hx => ?_,?_,?_⟩
 ·rcases zq821.1 hx with hx | rfl
  ·exact g.ins x hx
  ·exact ⟨ha,hs,⟨by show (-9223372036854775808 : Int) ≤ u; omega,by show u < 9223372036854775808; omega⟩⟩
 ·rcases zq821.1 hx with hx | rfl
  ·exact g.chk x hx
  ·exact zq271 ca hw hu
 ·rcases zq821.1 hx with hx | rfl
  ·exact g.held x hx
  ·exact hh
 ·unfold insAt
  rw [List.pairwise_append,zc47]
  refine ⟨hasc.1,⟨hhi,hasc.2.1⟩,fun y hy z hz => ?_⟩
  rcases zc28.1 hz with rfl | hz
  ·exact hlo y hy
  ·exact hasc.2.2 y hy z hz
 ·unfold insAt
  rw [List.pairwise_append,zc47]
  refine ⟨hwhos.1,⟨fun z hz he => hno z (List.mem_of_mem_drop hz) he.symm,hwhos.2.1⟩,fun y hy z hz => ?_⟩
  rcases zc28.1 hz with rfl | hz
  ·exact hno y (List.mem_of_mem_take hy)
  ·exact hwhos.2.2 y hy z hz
structure Given (p : Pf) (kp : List Ad) (l : List Ls) (who : ByteArray) (now u : Int) (m : List Ls) (a : Ad) : Prop where
 good : Good p m
 alive : ∀ x ∈ m,now ≤ x.upto
 mine : (⟨a,who,u⟩ : Ls) ∈ m
 others : ∀ x ∈ l,now ≤ x.upto → x.who ≠ who → x ∈ m
 fresh : (∀ x ∈ l,now ≤ x.upto → x.who ≠ who) → ∀ x ∈ kp,x ≠ a
theorem zq475 {p : Pf} (hp : p.In) {kp : List Ad} {l : List Ls} (hl : lsIn l) {who : ByteArray} (hw : strIn who) {now ttl : Int} {m : List Ls} {a : Ad} (h : zq485 p kp l who now ttl = (m,a,0,())) :
  chkOf p kp l now = 0 ∧ whoOk who = true ∧ Given p kp l who now (now + ttl) m a := by
 unfold zq485 at h
 split at h
 ·rename_i hc
  exact absurd (congrArg (fun y => y.2.2.1) h) hc
 rename_i hc
 have hc : chkOf p kp l now = 0 := zc51.1 hc
 split at h
 ·exact absurd (show (1 : Int) = 0 from congrArg (fun y => y.2.2.1) h) (by decide)
 rename_i hwo
 have hwo : whoOk who = true := by simpa using hwo
 split at h
 ·exact absurd (show (3 : Int) = 0 from congrArg (fun y => y.2.2.1) h) (by decide)
 rename_i ht
 have ht : betw ttl 1 500 = true := by simpa using ht
 split at h
 ·exact absurd (show (8 : Int) = 0 from congrArg (fun y => y.2.2.1) h) (by decide)
 rename_i hr
 obtain ⟨c1,c2,c3⟩ := zq272 hc
 obtain ⟨cp,hn,_⟩ := zq278 c1
 obtain ⟨t1,t2⟩ := zq218.1 ht
 obtain ⟨v1,v2⟩ := zq218.1 (zq167 c2).2.2.2
 have hu : betw (now + ttl) 0 10499 = true := zq218.2 ⟨by omega,by omega⟩
 have g := (zq484 hl hc).live now
 have hlm : ∀ x ∈ l,now ≤ x.upto → x ∈ live l now := fun x hx h => List.mem_filter.2 ⟨hx,by simp [liveP,h]⟩
 have hm : (rawOf p kp (live l now) who (now + ttl)).1 = m := congrArg (fun y => y.1) h
 have ha : (rawOf p kp (live l now) who (now + ttl)).2.1 = a := congrArg (fun y => y.2.1) h
 clear h
 refine ⟨hc,hwo,?_⟩
 unfold rawOf at hm ha hr
 cases hf : zq413 (whoP who) (live l now) with
 | some k =>
  rw [hf] at hm ha hr
  obtain ⟨e,he,hq,_⟩ := zq418 hf
  have hew : e.who = who := by simpa [whoP] using hq
  simp only [zq594,he] at hm ha
  subst hm ha
  have hk := (zc1.1 he).1
  refine ⟨g.set he hu,fun x hx => ?_,?_,fun x hx hx2 hx3 => ?_,fun hno => ?_⟩
  ·rcases zq823 hx with hx | rfl
   ·exact (zq782 hx).2
   ·show now ≤ now + ttl
    omega
  ·rw [← hew]
   exact zc5 (List.getElem?_set_self (by exact hk))
  ·obtain ⟨i,hi⟩ := List.getElem?_of_mem (hlm x hx hx2)
   have hik : k ≠ i := fun h => by
    subst h
    rw [he] at hi
    injection hi with hi
    exact hx3 (by rw [← hi,hew])
   exact zc5 ((List.getElem?_set_ne hik).trans hi)
  ·have hm := zq782 (zc5 he)
   exact absurd hew (hno e hm.1 hm.2)
 | none =>
  rw [hf] at hm ha hr
  cases hfr : zq460 p kp (live l now) with
  | none =>
   rw [hfr] at hr
   exact absurd rfl hr
  | some b =>
   rw [hfr] at hm ha
   simp only [zq1110] at hm ha
   subst hm ha
   obtain ⟨⟨i,hi,hbi⟩,htk⟩ := zq461 hfr
   obtain ⟨n1,n2,n3,n4⟩ := zq832 hp cp hn
   obtain ⟨b1,b2⟩ := zq84 n4 hi
   unfold zq1513 at htk
   simp only [Bool.or_eq_false_iff,List.any_eq_false,decide_eq_true_eq] at htk
   have hno : ∀ x ∈ live l now,x.who ≠ who := fun x hx he => by
    have := zq417 hf x hx
    simp [whoP,he] at this
   refine ⟨g.put (by rw [hbi]; exact b1) (by rw [hbi]; exact b2) (by rw [hbi,zq515 hp cp hn]; exact decide_eq_true hi) htk.2 hw hwo hno hu,fun x hx => ?_,zq821.2 (.inr rfl),fun x hx hx2 hx3 => zq821.2 (.inl (hlm x hx hx2)),fun _ x hx he => htk.1 x hx he.symm⟩
   rcases zq821.1 hx with hx | rfl
   ·exact (zq782 hx).2
   ·show now ≤ now + ttl
    omega
end Go.Ma
namespace Go.Ma
open Go
theorem zq1463 (x a b : Int) : zq1465 x a b = some (betw x a b,()) := by
 unfold zq1465
 rw [br_ss,zq220,zq217]
def zq400 (o : Oq) : Bool :=
 bif (bif (bif (bif (bif !decide (o.kind = 1) then !(eqPf o.pf ⟨⟨false,0,0⟩,0⟩) else false) then true else (bif !decide (o.kind = 2) then !(eqAd o.ad ⟨false,0,0⟩) else false))
  then true else (bif !decide (o.kind = 3) then (bif !decide (o.kind = 4) then zq1477 .neq o.who ByteArray.empty else false) else false))
  then true else (bif !decide (o.kind = 3) then !decide (o.of_ = 0) else false))
  then true else (bif !decide (o.kind = 3) then (bif !decide (o.kind = 5) then !decide (o.n = 0) else false) else false)
def formO (o : Oq) : Int :=
 if betw o.kind 1 5 = false then 7 else if zq400 o = true then 1
 else if o.kind = 1 then (if chkP o.pf ≠ 0 then chkP o.pf else if ((wid o.pf.ad.v6 : Nat) : Int) - o.pf.bits ≤ 4 then 0 else 2)
 else if o.kind = 2 then chkA o.ad
 else if o.kind < 5 ∧ whoOk o.who = false then 1
 else if o.kind = 3 ∧ (betw o.of_ 0 2 = false ∨ betw o.n 1 500 = false) then 3
 else if o.kind = 5 ∧ betw o.n 0 9999 = false then 3 else 0
theorem zq1439 (o : Oq) : zq1441 o = some (zq400 o,()) := by
 unfold zq1441
 simp only [br_ss,zq220]
 rfl
theorem zq1378 {o : Oq} (h : o.In) : zq1380 o = some (formO o,()) := by
 obtain ⟨_,hp,ha,hw,_,_⟩ := h
 unfold zq1380 formO
 rw [zq1463,zq220]
 cases hk : betw o.kind 1 5
 ·rfl
 obtain ⟨hk1,hk2⟩ := zq218.1 hk
 simp only [zc10,zq233,Bool.true_eq_false,if_false]
 rw [zq1439,zq220]
 cases zq400 o
 rotate_left
 ·rfl
 simp only [zq233,zc16,if_false]
 by_cases k1 : o.kind = 1
 ·rw [decide_eq_true k1,zq235,if_pos k1,zq1040 hp,zq220]
  by_cases hc : chkP o.pf = 0
  ·simp only [hc,decide_true,zc10,zq233,ne_eq,not_true,if_false]
   rw [zq699 hc,zq220]
   by_cases hn : ((wid o.pf.ad.v6 : Nat) : Int) - o.pf.bits ≤ 4 <;> simp [hn,zq235,zq233]
  ·simp [hc,zq235]
 rw [decide_eq_false k1,zq233,if_neg k1]
 by_cases k2 : o.kind = 2
 ·rw [decide_eq_true k2,zq235,if_pos k2,zq94,zq220]
 rw [decide_eq_false k2,zq233,if_neg k2]
 have who : ∀ (X : Bool → Option (Int × Unit)),((zq751 o.who).bind fun y => X y.1) = X (whoOk o.who) := fun X => by rw [zq749 hw,zq220]
 by_cases k3 : o.kind = 3
 ·simp only [k3,decide_true,zq235,zq749 hw,zq220,zq1463,br_ss]
  cases whoOk o.who <;> cases betw o.of_ 0 2 <;> cases betw o.n 1 500 <;> simp [zq235,zq233]
 ·simp only [k3,decide_false,zq233]
  by_cases k4 : o.kind = 4
  ·simp only [k4,zq749 hw,zq220,zq1463,br_ss]
   cases whoOk o.who <;> simp [zq235,zq233]
  ·have k5 : o.kind = 5 := by omega
   simp only [k5,zq1463,zq220]
   cases betw o.n 0 9999 <;> simp [zq235,zq233]
end Go.Ma
namespace Go.Ma
open Go
end Go.Ma
namespace Go.Ma
open Go
end Go.Ma
namespace Go.Ma
open Go
section
variable {α A R : Type}
theorem zq522 {step : (A → Option R) → A → Option R} (b : List α) (q : α → Bool) (mk : Nat → A) (out : Option Nat → R) (hlen : b.length < 9223372036854775808)
  (h : ∀ (rec : A → Option R) (i : Nat) (x : α),b[i]? = some x → i < b.length → step rec (mk i) = if q x then some (out (some i)) else rec (mk (i + 1)))
  (hend : ∀ rec : A → Option R,step rec (mk b.length) = some (out none)) : loopN step FUEL (mk 0) = some (out (zq413 q b)) := by
 have := zq792 (step := step) mk b.length (fun i => some (out ((zq413 q (b.drop i)).map (· + i)))) (fun rec i hi hr => ?_) (fun rec => ?_) FUEL 0 (Nat.zero_le _) (zq463 (by omega))
 ·rw [List.drop_zero,show (fun x => x + 0) = (id : Nat → Nat) from rfl,Option.map_id] at this
  exact this
 ·obtain ⟨e,he⟩ : ∃ e,b[i]? = some e := ⟨_,zc0 hi⟩
  rw [h rec i e he hi,zq415 he]
  cases q e
  ·rw [if_neg (by simp),if_neg (by simp),hr]
  ·rw [if_pos rfl,if_pos rfl]
 ·rw [hend,zc18 (zc49 _)]
  rfl
theorem zq219 {step : (A → Option R) → A → Option R} (n pos : Nat) (hp : pos ≤ n) (hn : n < 9223372036854775808) (mk : Nat → Nat → A) (out : R)
  (h : ∀ (rec : A → Option R) (i j : Nat),i < j → i ≤ pos → pos ≤ j → j ≤ n → step rec (mk i j) = if (i + j) / 2 < pos then rec (mk ((i + j) / 2 + 1) j) else rec (mk i ((i + j) / 2)))
  (hend : ∀ rec : A → Option R,step rec (mk pos pos) = some out) : loopN step FUEL (mk 0 n) = some out := by
 have key : ∀ (N i j : Nat),j - i < N → i ≤ pos → pos ≤ j → j ≤ n → loopN step N (mk i j) = some out := by
  intro N
  induction N with
  | zero => intro i j h; omega
  | succ N ih =>
   intro i j hN h1 h2 h3
   rw [zq789]
   by_cases hij : i < j
   ·rw [h _ i j hij h1 h2 h3]
    by_cases hh : (i + j) / 2 < pos
    ·rw [if_pos hh]; exact ih _ _ (by omega) (by omega) h2 h3
    ·rw [if_neg hh]; exact ih _ _ (by omega) h1 (by omega) (by omega)
   ·have : i = pos := by omega
    have : j = pos := by omega
    subst i j
    exact hend _
 exact key FUEL 0 n (zq463 (by omega)) (Nat.zero_le _) hp (zc49 _)
end
theorem zq988 {α : Type} (ls : List (List α)) : padL ls.length ls = ls := by simp [padL]
theorem zq989 {α : Type} {ls : List (List α)} {n : Nat} (h : ls.length = n) : padL n ls = ls := by subst h; exact zq988 ls
theorem zq469 {α : Type} (ls : List (List α)) (i : Nat) : getL ls (i : Int) = ls.getD i [] := by
 unfold getL
 rw [if_pos (by omega)]
 rfl
def pfIn (l : List Pf) : Prop := ∀ p ∈ l,p.In ∧ chkP p = 0
def zq1009 (ps : List Pf) (a : Ad) : Option Nat := zq413 (fun p => holds p a) ps
theorem zq1067 {p q : Pf} (hp : p.In) (hq : q.In) (cp : chkP p = 0) (cq : chkP q = 0) : zq1069 p q = some (over p q || over q p,()) := by
 unfold zq1069
 rw [zq1079 cp hq,zq220,zq1079 cq hp]
 cases over p q <;> rfl
theorem zq1451 {ps : List Pf} (hp : pfIn ps) (hlen : ps.length ≤ 1048576) (ks : List (List Ad)) (ls : List Ls) (now : Int) {a : Ad} (ha : a.In) : zq1459 (ps,ks) ls now a = some (idxI (zq1009 ps a),()) := by
 unfold zq1459
 have := zq522 (step := zq1453) ps (fun p => holds p a) (fun i => (((),(),(lenL ps,()),((i : Int),()),()),(ks,ps,ls,(now,()),(a,()),())))
  (fun o => match o with | some i => Sum.inl ((((i : Int),()),()),(ks,ps,ls,(now,()),(a,()),())) | none => Sum.inr ((),(ks,ps,ls,(now,()),(a,()),()))) (by omega) (fun rec i x hx hi => ?_) (fun rec => ?_)
 ·rw [show ((0 : Nat) : Int) = 0 from rfl] at this
  simp only
  rw [this,zq220]
  unfold zq1009
  cases zq413 (fun p => holds p a) ps <;> rfl
 ·obtain ⟨h1,h2⟩ := hp x (zc5 hx)
  obtain ⟨b1,b2⟩ := zq274 h2
  simp only [zq1453]
  rw [decide_eq_true (show (i : Int) < lenL ps by unfold lenL; omega),zq235,zq1187 (zq525 (by omega) (by unfold lenL; omega)),zq471 hx,zq220,zq1447,zq1055 b1 b2 ha,zq220,zq220]
  cases holds x a
  ·rw [show ((i : Int) + 1) = ((i + 1 : Nat) : Int) by omega,zq233,zq1187 (zq519 (by omega) (by omega)),if_neg (by simp)]
  ·rw [zq235,if_pos rfl]
 ·simp only [zq1453]
  rw [decide_eq_false (show ¬ (ps.length : Int) < lenL ps by unfold lenL; omega),zq233]
def meets (p q : Pf) : Bool := over p q || over q p
def zq1016 : List Pf → List (List Ad) → Int
 | [],_ => 0
 | p :: r,ks => if zq276 p (ks.headD []) ≠ 0 then zq276 p (ks.headD []) else zq1016 r ks.tail
def adjOk : List Pf → Bool
 | p :: q :: r => decide (ordP p q < 0) && (!meets p q && adjOk (q :: r))
 | _ => true
def stF' (ps : List Pf) (now : Int) : List Ls → List Ls → Int
 | _,[] => 0
 | bf,x :: r => if (zq1009 ps x.ad).isNone = true then 5 else if bf.any (whoP x.who) = true then 6 else if x.upto < now then 4 else stF' ps now (bf ++ [x]) r
def chkS (ps : List Pf) (ks : List (List Ad)) (ls : List Ls) (now : Int) : Int :=
 if ps.length > 3 then 2 else if zq1016 ps ks ≠ 0 then zq1016 ps ks else if adjOk ps = false then 4 else if betw now 0 9999 = false then 3
 else if allC ls now ≠ 0 then allC ls now else stF' ps now [] ls
theorem zq1017 : ∀ {ps : List Pf} {ks : List (List Ad)},zq1016 ps ks = 0 → ∀ (i : Nat) (p : Pf),ps[i]? = some p → zq276 p (ks.getD i []) = 0
 | [],_,_,i,p,h => by simp at h
 | q :: r,ks,h,i,p,hp => by
  unfold zq1016 at h
  by_cases hc : zq276 q (ks.headD []) = 0
  ·rw [if_neg (fun h => h hc)] at h
   match i with
   | 0 =>
    simp only [zc13,zc2] at hp
    subst hp
    cases ks <;> exact hc
   | i + 1 =>
    simp only [zc35] at hp
    have := zq1017 h i p hp
    cases ks <;> simpa using this
  ·rw [if_pos hc] at h; exact absurd h hc
theorem zq1019 {ps : List Pf} {ks : List (List Ad)} {i : Nat} {p : Pf} (h : ps[i]? = some p) : zq1016 (ps.drop i) (ks.drop i) = if zq276 p (ks.getD i []) ≠ 0 then zq276 p (ks.getD i []) else zq1016 (ps.drop (i + 1)) (ks.drop (i + 1)) := by
 rw [zq368 h,zq1016]
 have e1 : (ks.drop i).headD [] = ks.getD i [] := by
  rw [zc3,List.headD_eq_head?_getD,List.head?_drop]
 have e2 : (ks.drop i).tail = ks.drop (i + 1) := by rw [List.tail_drop]
 rw [e1,e2]
end Go.Ma
namespace Go.Ma
open Go
def kV (v : Bool) : Int := if v then 1 else 0
theorem zq951 (a b : Ad) : (ordA a b < 0 ↔ kV a.v6 < kV b.v6 ∨ (kV a.v6 = kV b.v6 ∧ (a.hi < b.hi ∨ (a.hi = b.hi ∧ a.lo < b.lo)))) ∧ (ordA a b = 0 ↔ kV a.v6 = kV b.v6 ∧ a.hi = b.hi ∧ a.lo = b.lo) := by
 unfold ordA ordI kV
 cases a.v6 <;> cases b.v6 <;> simp <;> (by_cases h1 : a.hi = b.hi <;> simp [h1] <;> constructor <;> (repeat' split) <;> omega)
theorem zq953 (p q : Pf) : ordP p q < 0 ↔ kV p.ad.v6 < kV q.ad.v6 ∨ (kV p.ad.v6 = kV q.ad.v6 ∧ (p.ad.hi < q.ad.hi ∨ (p.ad.hi = q.ad.hi ∧ (p.ad.lo < q.ad.lo ∨ (p.ad.lo = q.ad.lo ∧ p.bits < q.bits))))) := by
 obtain ⟨h1,h2⟩ := zq951 p.ad q.ad
 unfold ordP
 split <;> omega
theorem kV_inj {v w : Bool} (h : kV v = kV w) : v = w := by cases v <;> cases w <;> first | rfl | (exact absurd h (by decide))
theorem zq955 {p q r : Pf} (h1 : ordP p q < 0) (h2 : ordP q r < 0) : ordP p r < 0 := by
 rw [zq953] at h1 h2 ⊢
 omega
end Go.Ma
namespace Go.Ma
open Go
theorem zq279 {A R : Type} {step : (A → Option R) → A → Option R} (n i0 : Nat) (hi0 : i0 ≤ n) (hn : n < 9223372036854775808) (c F : Nat → Int) (mk : Nat → A) (ok : R) (err : Int → R)
  (hF : ∀ i,i0 ≤ i → i < n → F i = if c i ≠ 0 then c i else F (i + 1)) (hFn : F n = 0)
  (h : ∀ (rec : A → Option R) (i : Nat),i0 ≤ i → i < n → (∀ j,i0 ≤ j → j < i → c j = 0) → step rec (mk i) = if c i ≠ 0 then some (err (c i)) else rec (mk (i + 1)))
  (hend : ∀ rec : A → Option R,(∀ j,i0 ≤ j → j < n → c j = 0) → step rec (mk n) = some ok) : loopN step FUEL (mk i0) = some (if F i0 = 0 then ok else err (F i0)) := by
 have key : ∀ (N i : Nat),i0 ≤ i → n - i < N → i ≤ n → (∀ j,i0 ≤ j → j < i → c j = 0) → loopN step N (mk i) = some (if F i = 0 then ok else err (F i)) := by
  intro N
  induction N with
  | zero => intro i _ h; omega
  | succ N ih =>
   intro i hi hN hin hp
   rw [zq789]
   by_cases hlt : i < n
   ·have e1 := hF i hi hlt
    by_cases hc : c i = 0
    ·rw [if_neg (fun h => h hc)] at e1
     rw [h _ i hi hlt hp,if_neg (fun h => h hc),e1]
     exact ih (i + 1) (by omega) (by omega) (by omega) (fun j h1 h2 => by
      by_cases hj : j = i
      ·rw [hj]; exact hc
      ·exact hp j h1 (by omega))
    ·rw [if_pos hc] at e1
     rw [h _ i hi hlt hp,if_pos hc,e1,if_neg hc]
   ·have : i = n := by omega
    subst this
    rw [hend _ hp,hFn,if_pos rfl]
 exact key FUEL i0 (zc49 _) (zq463 (by omega)) hi0 (fun j h1 h2 => by omega)
theorem zq954 {p q : Pf} (hp : p.In) (hq : q.In) (h : ordP p q < 0) : rank p.ad ≤ rank q.ad := by
 obtain ⟨h1,h2⟩ := zq956 hp.1 hq.1
 unfold ordP at h
 split at h
 ·have := h1.1 h; omega
 ·rename_i h3
  have := h2.1 (zc51.1 h3); omega
theorem zq1154 {a b : Ad} (ha : a.In) (hb : b.In) (h : rank a ≤ rank b) (hv : a.v6 = b.v6) : a.num ≤ b.num := by
 unfold rank at h
 rw [hv] at h
 omega
theorem zq1155 {a b c : Ad} (ha : a.In) (hb : b.In) (hc : c.In) (h : rank a ≤ rank b) (h2 : rank b ≤ rank c) (hv : a.v6 = c.v6) : a.v6 = b.v6 ∧ b.v6 = c.v6 := by
 have h3 := zq865 ha
 have h4 := zq865 hb
 have h5 := zq865 hc
 unfold rank at h h2
 rw [← hv] at h2 ⊢
 cases hav : a.v6 <;> cases hbv : b.v6 <;> simp only [hav,hbv,if_true,zc16,if_false] at h h2 <;> first | exact ⟨rfl,rfl⟩ | (exfalso; omega)
theorem zq819 {p q : Pf} (hp : p.In) (hq : q.In) (cp : chkP p = 0) (cq : chkP q = 0) (hv : p.ad.v6 = q.ad.v6) (h1 : q.ad.num ≤ p.ad.num + (2 ^ free p - 1)) (h2 : p.ad.num ≤ q.ad.num + (2 ^ free q - 1)) : meets p q = true := by
 unfold meets
 by_cases hb : p.bits ≤ q.bits
 ·rw [zq192 hp hq cp cq hv h1 h2 hb]; rfl
 ·rw [zq192 hq hp cq cp hv.symm h2 h1 (by omega)]; simp
theorem zq818 {p q : Pf} (hp : p.In) (hq : q.In) (cp : chkP p = 0) (cq : chkP q = 0) : meets p q = true ↔ p.ad.v6 = q.ad.v6 ∧ q.ad.num ≤ p.ad.num + (2 ^ free p - 1) ∧ p.ad.num ≤ q.ad.num + (2 ^ free q - 1) := by
 constructor
 ·intro h
  unfold meets at h
  rw [Bool.or_eq_true] at h
  have e1 := Nat.two_pow_pos (free p)
  have e2 := Nat.two_pow_pos (free q)
  rcases h with h | h
  ·obtain ⟨h1,h2,h3⟩ := (zq517 hp cp hq.1).1 (zq963.1 h).2
   exact ⟨h1,by omega,by omega⟩
  ·obtain ⟨h1,h2,h3⟩ := (zq517 hq cq hp.1).1 (zq963.1 h).2
   exact ⟨h1.symm,by omega,by omega⟩
 ·rintro ⟨h1,h2,h3⟩
  exact zq819 hp hq cp cq h1 h2 h3
theorem zq817 {p q r : Pf} (hp : p.In) (hq : q.In) (hr : r.In) (cp : chkP p = 0) (cq : chkP q = 0) (cr : chkP r = 0) (h1 : ordP p q < 0) (h2 : ordP q r < 0) (h : meets p r = true) : meets p q = true := by
 obtain ⟨m1,m2,m3⟩ := (zq818 hp hr cp cr).1 h
 have r1 := zq954 hp hq h1
 have r2 := zq954 hq hr h2
 obtain ⟨v1,v2⟩ := zq1155 hp.1 hq.1 hr.1 r1 r2 m1
 have n1 := zq1154 hp.1 hq.1 r1 v1
 have n2 := zq1154 hq.1 hr.1 r2 v2
 exact zq819 hp hq cp cq v1 (by omega) (by omega)
def zq189 (p q : Pf) : Prop := ordP p q < 0 ∧ meets p q = false
theorem zq159 : ∀ {ps : List Pf},pfIn ps → (adjOk ps = true ↔ ps.Pairwise zq189)
 | [],_ => by simp [adjOk]
 | [p],_ => by simp [adjOk]
 | p :: q :: r,h => by
  have h' : pfIn (q :: r) := fun x hx => h x (List.mem_cons_of_mem _ hx)
  have ih := zq159 h'
  have hp := h p List.mem_cons_self
  have hq := h q (List.mem_cons_of_mem _ List.mem_cons_self)
  simp only [adjOk,zc4,decide_eq_true_eq,Bool.not_eq_true']
  rw [ih]
  constructor
  ·rintro ⟨h1,h2,h3⟩
   refine zc47.2 ⟨fun x hx => ?_,h3⟩
   rcases zc28.1 hx with rfl | hx
   ·exact ⟨h1,h2⟩
   ·have hqx := (zc47.1 h3).1 x hx
    have hxi := h' x (List.mem_cons_of_mem _ hx)
    refine ⟨zq955 h1 hqx.1,?_⟩
    cases hm : meets p x
    ·rfl
    ·rw [zq817 hp.1 hq.1 hxi.1 hp.2 hq.2 hxi.2 h1 hqx.1 hm] at h2
     cases h2
  ·intro hh
   obtain ⟨h1,h2⟩ := zc47.1 hh
   have := h1 q List.mem_cons_self
   exact ⟨this.1,this.2,h2⟩
def kpIn (ks : List (List Ad)) : Prop := ∀ k ∈ ks,adIn k
theorem kp_at {ks : List (List Ad)} (h : kpIn ks) (i : Nat) : adIn (ks.getD i []) := by
 rw [zc3]
 cases he : ks[i]? with
 | none => intro a ha; cases ha
 | some k => exact h k (zc5 he)
def cPool (ps : List Pf) (ks : List (List Ad)) (i : Nat) : Int := match ps[i]? with | some p => zq276 p (ks.getD i []) | none => 0
theorem zq249 {ps : List Pf} {ks : List (List Ad)} {i : Nat} {p : Pf} (h : ps[i]? = some p) : cPool ps ks i = zq276 p (ks.getD i []) := by unfold cPool; rw [h]
theorem zq282 {ps : List Pf} (hp : ∀ p ∈ ps,p.In) {ks : List (List Ad)} (hk : kpIn ks) (hlen : ps.length ≤ 1048576) (ls : List Ls) (now : Int) :
  loopN zq1360 FUEL (((),(),(lenL ps,()),(0,()),()),(ks,ps,ls,(now,()),())) = some (if zq1016 ps ks = 0 then Sum.inr (((),()),(ks,ps,ls,(now,()),())) else Sum.inl (((zq1016 ps ks,()),()),(ks,ps,ls,()))) := by
 have := zq279 (step := zq1360) ps.length 0 (Nat.zero_le _) (by omega) (cPool ps ks) (fun i => zq1016 (ps.drop i) (ks.drop i)) (fun i => (((),(),(lenL ps,()),((i : Int),()),()),(ks,ps,ls,(now,()),())))
  (Sum.inr (((),()),(ks,ps,ls,(now,()),()))) (fun e => Sum.inl (((e,()),()),(ks,ps,ls,()))) (fun i _ hi => ?_) (by simp [zq1016]) (fun rec i _ hi _ => ?_) (fun rec _ => ?_)
 ·simpa using this
 ·obtain ⟨e,he⟩ : ∃ e,ps[i]? = some e := ⟨_,zc0 hi⟩
  rw [zq249 he,← zq1019 he]
 ·obtain ⟨e,he⟩ : ∃ e,ps[i]? = some e := ⟨_,zc0 hi⟩
  rw [zq249 he]
  simp only [zq1360]
  rw [decide_eq_true (show (i : Int) < lenL ps by unfold lenL; omega),zq235,zq1187 (zq525 (by omega) (by unfold lenL; omega)),zq471 he,zq220,zq469,zq708 (hp e (zc5 he)) (kp_at hk i),zq220]
  by_cases hc : zq276 e (ks.getD i []) = 0
  ·rw [decide_eq_true hc,if_neg (fun h => h hc),zc10,zq233,show ((i : Int) + 1) = ((i + 1 : Nat) : Int) by omega,zq1187 (zq519 (by omega) (by omega))]
  ·rw [decide_eq_false hc,if_pos hc,zc19,zq235]
 ·simp only [zq1360]
  rw [decide_eq_false (show ¬ (ps.length : Int) < lenL ps by unfold lenL; omega),zq233]
theorem adj_at {ps : List Pf} {i : Nat} (h1 : 1 ≤ i) {p q : Pf} (hp : ps[i - 1]? = some p) (hq : ps[i]? = some q) : adjOk (ps.drop (i - 1)) = (decide (ordP p q < 0) && (!meets p q && adjOk (ps.drop i))) := by
 have e : ps.drop i = q :: ps.drop (i + 1) := zq368 hq
 have e2 : ps.drop (i - 1) = p :: ps.drop i := by
  have := zq368 hp
  rwa [show i - 1 + 1 = i by omega] at this
 rw [e2,e,adjOk]
def adjI (ps : List Pf) (i : Nat) : Int := if adjOk (ps.drop (i - 1)) = true then 0 else 4
def cAdj (ps : List Pf) (i : Nat) : Int := match ps[i - 1]?,ps[i]? with | some p,some q => if ordP p q < 0 ∧ meets p q = false then 0 else 4 | _,_ => 0
theorem zq280 {ps : List Pf} (hp : pfIn ps) (ks : List (List Ad)) (hlen : ps.length ≤ 1048576) (ls : List Ls) (now : Int) :
  loopN zq1354 FUEL (((),(1,()),()),(ks,ps,ls,(now,()),())) = some (if adjOk ps = true then Sum.inr (((),()),(ks,ps,ls,(now,()),())) else Sum.inl (((4,()),()),(ks,ps,ls,()))) := by
 by_cases h0 : ps.length = 0
 ·have : ps = [] := List.eq_nil_of_length_eq_zero h0
  subst this
  rfl
 have := zq279 (step := zq1354) ps.length 1 (by omega) (by omega) (cAdj ps) (adjI ps) (fun i => (((),((i : Int),()),()),(ks,ps,ls,(now,()),())))
  (Sum.inr (((),()),(ks,ps,ls,(now,()),()))) (fun e => Sum.inl (((e,()),()),(ks,ps,ls,()))) (fun i h1 hi => ?_) ?_ (fun rec i h1 hi _ => ?_) (fun rec _ => ?_)
 ·rw [show ((1 : Nat) : Int) = 1 from rfl] at this
  rw [this]
  unfold adjI
  rw [show (1 : Nat) - 1 = 0 from rfl,List.drop_zero]
  cases adjOk ps <;> rfl
 ·obtain ⟨q,hq⟩ : ∃ e,ps[i]? = some e := ⟨_,zc0 hi⟩
  obtain ⟨p,hp'⟩ : ∃ e,ps[i - 1]? = some e := ⟨_,zc0 (by omega)⟩
  unfold adjI cAdj
  rw [adj_at h1 hp' hq,hp',hq,show i + 1 - 1 = i by omega]
  simp only
  by_cases ho : ordP p q < 0 <;> cases hm : meets p q <;> simp [ho]
 ·unfold adjI
  have : adjOk (ps.drop (ps.length - 1)) = true := by
   obtain ⟨p,hp'⟩ : ∃ e,ps[ps.length - 1]? = some e := ⟨_,zc0 (by omega)⟩
   rw [zq368 hp',show ps.length - 1 + 1 = ps.length by omega,List.drop_length]
   rfl
  rw [this]; rfl
 ·obtain ⟨q,hq⟩ : ∃ e,ps[i]? = some e := ⟨_,zc0 hi⟩
  obtain ⟨p,hp'⟩ : ∃ e,ps[i - 1]? = some e := ⟨_,zc0 (by omega)⟩
  obtain ⟨p1,p2⟩ := hp p (zc5 hp')
  obtain ⟨q1,q2⟩ := hp q (zc5 hq)
  have r1 : zq523 ((i : Int) - 1) (lenL ps) = true := zq525 (by omega) (by unfold lenL; omega)
  have r2 : zq523 (i : Int) (lenL ps) = true := zq525 (by omega) (by unfold lenL; omega)
  have r3 : i64ok ((i : Int) - 1) = true := zq519 (by omega) (by omega)
  have hg : geti ps ((i : Int) - 1) = some p := by rw [show ((i : Int) - 1) = ((i - 1 : Nat) : Int) by omega]; exact zq471 hp'
  unfold cAdj
  rw [hp',hq]
  simp only [zq1354]
  simp only [r1,r2,r3,zq1189,hg,zq471 hq,zq220,zq1073 p2 q2,zq1067 p1 q1 p2 q2]
  rw [decide_eq_true (show (i : Int) < lenL ps by unfold lenL; omega),zq235]
  by_cases ho : ordP p q < 0
  ·rw [decide_eq_false (show ¬ ordP p q ≥ 0 by omega),zq233,zq220]
   cases hm : meets p q
   ·rw [show (over p q || over q p) = false from hm,zq233,show ((i : Int) + 1) = ((i + 1 : Nat) : Int) by omega,zq1187 (zq519 (by omega) (by omega))]
    simp [ho]
   ·rw [show (over p q || over q p) = true from hm,zq235]
    simp
  ·rw [decide_eq_true (show ordP p q ≥ 0 by omega),zq235,zq220,zq235]
   simp [ho]
 ·simp only [zq1354]
  rw [decide_eq_false (show ¬ (ps.length : Int) < lenL ps by unfold lenL; omega),zq233]
end Go.Ma
namespace Go.Ma
open Go
theorem zq1590 {l : List Ls} : ∀ i : Nat,i ≤ l.length → (∀ (j : Nat) (x : Ls),j < i → l[j]? = some x → (l.take j).any (whoP x.who) = false) → zq1585 [] (l.take i) = false
 | 0,_,_ => rfl
 | i + 1,hi,h => by
  obtain ⟨x,hx⟩ : ∃ e,l[i]? = some e := ⟨_,zc0 (by omega)⟩
  rw [zq1511 hx,zq1586,zq1590 i (by omega) (fun j x hj => h j x (by omega)),h i x (by omega) hx]
  rfl
def cLs (ps : List Pf) (now : Int) (ls : List Ls) (i : Nat) : Int := match ls[i]? with | some x => if (zq1009 ps x.ad).isNone = true then 5 else if (ls.take i).any (whoP x.who) = true then 6 else if x.upto < now then 4 else 0 | none => 0
theorem zq247 {ps : List Pf} {now : Int} {ls : List Ls} {i : Nat} {x : Ls} (h : ls[i]? = some x) : cLs ps now ls i = if (zq1009 ps x.ad).isNone = true then 5 else if (ls.take i).any (whoP x.who) = true then 6 else if x.upto < now then 4 else 0 := by unfold cLs; rw [h]
theorem stF_at {ps : List Pf} {now : Int} {ls : List Ls} {i : Nat} (hi : i < ls.length) : stF' ps now (ls.take i) (ls.drop i) = if cLs ps now ls i ≠ 0 then cLs ps now ls i else stF' ps now (ls.take (i + 1)) (ls.drop (i + 1)) := by
 obtain ⟨x,hx⟩ : ∃ e,ls[i]? = some e := ⟨_,zc0 hi⟩
 rw [zq368 hx,stF',zq247 hx,zq1511 hx]
 by_cases h1 : (zq1009 ps x.ad).isNone = true
 ·simp only [h1,if_true]; simp
 ·by_cases h2 : (ls.take i).any (whoP x.who) = true
  ·simp only [h1,h2,if_true]; simp
  ·by_cases h3 : x.upto < now
   ·simp only [h1,h2,h3,if_true]; simp
   ·simp only [h1,h2,h3]; simp
theorem zq248 {ps : List Pf} {now : Int} {ls : List Ls} {i : Nat} {x : Ls} (h : ls[i]? = some x) (hc : cLs ps now ls i = 0) : (ls.take i).any (whoP x.who) = false := by
 rw [zq247 h] at hc
 split at hc
 ·cases hc
 ·split at hc
  ·cases hc
  ·rename_i h2; simpa using h2
theorem zq520 (o : Option Nat) : decide (idxI o < 0) = o.isNone := by
 cases o with
 | none => rfl
 | some k =>
  have : ¬ idxI (some k) < 0 := by show ¬ (k : Int) < 0; omega
  simp [this]
theorem zq281 {ps : List Pf} (hp : pfIn ps) (hlen : ps.length ≤ 1048576) (ks : List (List Ad)) {ls : List Ls} (hl : lsIn ls) (hc : ∀ x ∈ ls,chkLs x = 0) (h20 : ls.length ≤ 20) (now : Int) :
  loopN zq1357 FUEL (((),(),(lenL ls,()),(0,()),()),(ks,ps,ls,(now,()),())) = some (if stF' ps now [] ls = 0 then Sum.inr ((),(ks,ps,ls,())) else Sum.inl (((stF' ps now [] ls,()),()),(ks,ps,ls,()))) := by
 have := zq279 (step := zq1357) ls.length 0 (Nat.zero_le _) (by omega) (cLs ps now ls) (fun i => stF' ps now (ls.take i) (ls.drop i)) (fun i => (((),(),(lenL ls,()),((i : Int),()),()),(ks,ps,ls,(now,()),())))
  (Sum.inr ((),(ks,ps,ls,()))) (fun e => Sum.inl (((e,()),()),(ks,ps,ls,()))) (fun i _ hi => stF_at hi) (by rw [List.drop_length]; rfl) (fun rec i _ hi hpre => ?_) (fun rec _ => ?_)
 ·simpa using this
 ·obtain ⟨x,hx⟩ : ∃ e,ls[i]? = some e := ⟨_,zc0 hi⟩
  have hm := zc5 hx
  have hsub : subL ls 0 ((i : Int) + 1) = ls.take (i + 1) := by
   have : ((i : Int) + 1).toNat = i + 1 := by omega
   simp [subL,this]
  have htw : zq742 (ls.take (i + 1)) = some (zq1585 [] (ls.take (i + 1)),()) := by
   unfold zq742
   rw [zq1187]
   simp only [zc4,zc17]
   refine ⟨Nat.ble_eq_true_of_le (by simp; omega),fun x hx => ?_⟩
   have := (zq218.1 (by
    have := (zq270 (hc x (List.mem_of_mem_take hx))).2.1
    unfold whoOk at this
    rw [zc4] at this
    exact this.2)).2
   unfold lenS at this
   exact Nat.ble_eq_true_of_le (by omega)
  have hI : zq1585 [] (ls.take i) = false := zq1590 i (by omega) fun j y hj hy => zq248 hy (hpre j (Nat.zero_le _) hj)
  have r5 : (decide ((0 : Int) ≤ (i : Int) + 1) && decide ((i : Int) + 1 ≤ lenL ls)) = true := by
   rw [decide_eq_true (show (0 : Int) ≤ (i : Int) + 1 by omega),decide_eq_true (show (i : Int) + 1 ≤ lenL ls by unfold lenL; omega)]
   rfl
  rw [zq247 hx]
  simp only [zq1357]
  rw [decide_eq_true (show (i : Int) < lenL ls by unfold lenL; omega),zq235,zq1187 (zq525 (by omega) (by unfold lenL; omega)),zq471 hx,zq220,zq1451 hp hlen ks ls now (hl x hm).1,zq220,zq520]
  cases hq : (zq1009 ps x.ad).isNone
  rotate_left
  ·rfl
  simp only [zq233,zc16,if_false]
  rw [zq1187 (zq519 (by omega) (by omega)),zq1187 r5,hsub,htw,zq220,zq1511 hx,zq1586,hI]
  simp only [List.any_nil,Bool.false_or]
  cases hw : (ls.take i).any (whoP x.who)
  rotate_left
  ·rfl
  simp only [zq233,zc16,if_false]
  by_cases hu : x.upto < now
  ·simp only [hu,decide_true,zq235,if_true]; rfl
  ·simp only [hu,decide_false,zq233,if_false,ne_eq,not_true]
   rw [show ((i : Int) + 1) = ((i + 1 : Nat) : Int) by omega,zq1187 (zq519 (by omega) (by omega))]
 ·simp only [zq1357]
  rw [decide_eq_false (show ¬ (ls.length : Int) < lenL ls by unfold lenL; omega),zq233]
theorem zq1000 {ps : List Pf} (hp : ∀ p ∈ ps,p.In) {ks : List (List Ad)} (h : zq1016 ps ks = 0) : pfIn ps := fun p hm => by
 obtain ⟨i,hi⟩ := zc30.1 hm
 exact ⟨hp p hm,(zq278 (zq1017 h i p hi)).1⟩
theorem zq1366 {ps : List Pf} (hp : ∀ p ∈ ps,p.In) {ks : List (List Ad)} (hk : kpIn ks) {ls : List Ls} (hl : lsIn ls) (now : Int) : zq1368 (ps,ks) ls now = some (chkS ps ks ls now,()) := by
 unfold zq1368 chkS
 simp only
 by_cases h3 : ps.length > 3
 ·rw [decide_eq_true (show lenL ps > 3 by unfold lenL; omega),zq235,if_pos h3]
 rw [decide_eq_false (show ¬ lenL ps > 3 by unfold lenL; omega),zq233,if_neg h3,zq282 hp hk (by omega) ls now,zq220]
 by_cases h4 : zq1016 ps ks = 0
 rotate_left
 ·rw [if_neg h4,if_pos h4]; rfl
 rw [if_pos h4,if_neg (fun h => h h4)]
 have hpf := zq1000 hp h4
 simp only [sumC]
 rw [zq280 hpf ks (by omega) ls now,zq220]
 cases ha : adjOk ps
 ·rfl
 simp only [if_true,Bool.true_eq_false,if_false]
 rw [zq1463,zq220]
 cases hb : betw now 0 9999
 ·rfl
 simp only [zc10,zq233,Bool.true_eq_false,if_false]
 rw [zq670 hl,zq220]
 by_cases hc : allC ls now = 0
 rotate_left
 ·rw [decide_eq_false hc,if_pos hc]; rfl
 rw [decide_eq_true hc,if_neg (fun h => h hc),zc10,zq233]
 obtain ⟨a1,a2,_,_⟩ := zq167 hc
 rw [zq281 hpf (by omega) ks hl a2 a1 now,zq220]
 by_cases hs : stF' ps now [] ls = 0
 ·rw [if_pos hs,hs]
 ·rw [if_neg hs]
end Go.Ma
namespace Go.Ma
open Go
theorem zq1018 : ∀ (ps : List Pf) (ks : List (List Ad)),zq1016 ps ks = 0 ↔ ∀ (i : Nat) (p : Pf),ps[i]? = some p → zq276 p (ks.getD i []) = 0 := fun ps ks => by
 refine ⟨zq1017,?_⟩
 induction ps generalizing ks with
 | nil => intro _; rfl
 | cons q r ih =>
  intro h
  have h0 := h 0 q rfl
  have h0' : zq276 q (ks.headD []) = 0 := by cases ks <;> exact h0
  rw [zq1016,if_neg (fun hh => hh h0')]
  refine ih _ fun i p hp => ?_
  have := h (i + 1) p hp
  cases ks <;> simpa using this
theorem zq1345 (ps : List Pf) (now : Int) : ∀ (m bf : List Ls),stF' ps now bf m = 0 ↔ (∀ x ∈ m,(zq1009 ps x.ad).isSome = true) ∧ (∀ x ∈ m,now ≤ x.upto) ∧ (∀ y ∈ bf,∀ x ∈ m,y.who ≠ x.who) ∧ m.Pairwise fun x y => x.who ≠ y.who
 | [],bf => by simp [stF']
 | x :: r,bf => by
  unfold stF'
  by_cases h1 : (zq1009 ps x.ad).isSome = true
  ·rw [if_neg (by cases hq : zq1009 ps x.ad <;> simp_all)]
   by_cases h2 : bf.any (whoP x.who) = true
   ·rw [if_pos h2]
    constructor
    ·intro h; exact absurd h (by decide)
    ·rintro ⟨_,_,h3,_⟩
     obtain ⟨y,hy,hq⟩ := List.any_eq_true.1 h2
     exact absurd (by simpa [whoP] using hq) (h3 y hy x (by simp))
   ·rw [if_neg h2]
    have h2' : ∀ y ∈ bf,y.who ≠ x.who := fun y hy he => h2 (List.any_eq_true.2 ⟨y,hy,by simp [whoP,he]⟩)
    by_cases hu : x.upto < now
    ·rw [if_pos hu]
     constructor
     ·intro h; exact absurd h (by decide)
     ·rintro ⟨_,h3,_⟩
      have := h3 x (by simp)
      omega
    rw [if_neg hu,zq1345 ps now r (bf ++ [x])]
    constructor
    ·rintro ⟨a1,a0,a2,a3⟩
     refine ⟨fun z hz => ?_,fun z hz => ?_,fun y hy z hz => ?_,zc47.2 ⟨fun z hz => a2 x (by simp) z hz,a3⟩⟩
     ·rcases zc28.1 hz with rfl | hz
      ·exact h1
      ·exact a1 z hz
     ·rcases zc28.1 hz with rfl | hz
      ·omega
      ·exact a0 z hz
     ·rcases zc28.1 hz with rfl | hz
      ·exact h2' y hy
      ·exact a2 y (by simp [hy]) z hz
    ·rintro ⟨a1,a0,a2,a3⟩
     obtain ⟨b1,b2⟩ := zc47.1 a3
     refine ⟨fun z hz => a1 z (by simp [hz]),fun z hz => a0 z (by simp [hz]),fun y hy z hz => ?_,b2⟩
     rcases zc36.1 hy with hy | hy
     ·exact a2 y hy z (by simp [hz])
     ·have : y = x := by simpa using hy
      subst this
      exact b1 z hz
  ·rw [if_pos (by simpa using h1)]
   constructor
   ·intro h; exact absurd h (by decide)
   ·rintro ⟨a1,_⟩; exact absurd (a1 x (by simp)) h1
theorem zq1010 {ps : List Pf} {a : Ad} : (zq1009 ps a).isSome = true ↔ ∃ p ∈ ps,holds p a = true := by
 unfold zq1009
 rw [zq414,List.any_eq_true]
structure StOk (ps : List Pf) (ks : List (List Ad)) (ls : List Ls) (now : Int) : Prop where
 pin : pfIn ps
 kin : kpIn ks
 lin : lsIn ls
 klen : ks.length = ps.length
 plen : ps.length ≤ 3
 pool : ∀ (i : Nat) (p : Pf),ps[i]? = some p → zq276 p (ks.getD i []) = 0
 pair : ps.Pairwise zq189
 time : betw now 0 9999 = true
 all : allC ls now = 0
 has : ∀ x ∈ ls,∃ p ∈ ps,holds p x.ad = true
 upto : ∀ x ∈ ls,now ≤ x.upto
 who : ls.Pairwise fun x y => x.who ≠ y.who
theorem zq1346 {ps : List Pf} (hp : ∀ p ∈ ps,p.In) {ks : List (List Ad)} (hk : kpIn ks) {ls : List Ls} (hl : lsIn ls) (hlen : ks.length = ps.length) {now : Int} (h : chkS ps ks ls now = 0) : StOk ps ks ls now := by
 unfold chkS at h
 split at h
 ·cases h
 rename_i h3
 split at h
 ·rename_i h4; exact absurd h h4
 rename_i h4
 have h4 := zc51.1 h4
 split at h
 ·cases h
 rename_i ha
 split at h
 ·cases h
 rename_i hb
 split at h
 ·rename_i hc; exact absurd h hc
 rename_i hc
 have hpf := zq1000 hp h4
 obtain ⟨s1,s2,_,s3⟩ := (zq1345 ps now ls []).1 h
 exact ⟨hpf,hk,hl,hlen,by omega,(zq1018 ps ks).1 h4,(zq159 hpf).1 (by simpa using ha),by simpa using hb,zc51.1 hc,fun x hx => zq1010.1 (s1 x hx),s2,s3⟩
abbrev StV := (List Pf × List (List Ad)) × List Ls × Int × Unit
abbrev DoV := StV × Ad × Int × Unit
def noSt : StV := ((([] : List Pf),([] : List (List Ad))),([] : List Ls),0,())
def noAd : Ad := ⟨false,0,0⟩
def errS (e : Int) : DoV := (noSt,noAd,e,())
def okS (ps : List Pf) (ks : List (List Ad)) (ls : List Ls) (now : Int) (a : Ad) : DoV := (((ps,ks),ls,now,()),a,0,())
def posP (p : Pf) (ps : List Pf) : Nat := (ps.takeWhile fun y => decide (ordP y p < 0)).length
def posA (a : Ad) (kp : List Ad) : Nat := (kp.takeWhile fun y => decide (ordA y a < 0)).length
def putAt {α : Type} (l : List α) (n : Nat) (x : α) : List α := l.take n ++ x :: l.drop n
def zq364 (ps : List Pf) (ks : List (List Ad)) (ls : List Ls) (now : Int) (p : Pf) : DoV :=
 if ps.any (fun q => meets q p) = true then errS 6 else if ps.length = 3 then errS 2 else okS (putAt ps (posP p ps) p) (putAt ks (posP p ps) []) ls now noAd
def zq363 (ps : List Pf) (ks : List (List Ad)) (ls : List Ls) (now : Int) (a : Ad) : DoV :=
 match zq1009 ps a with
 | none => errS 5
 | some i => if (ks.getD i []).any (fun x => decide (a = x)) = true then errS 6 else if (ks.getD i []).length = 6 then errS 2 else okS ps (ks.set i (putAt (ks.getD i []) (posA a (ks.getD i [])) a)) ls now noAd
def ownL (p : Pf) (ls : List Ls) : List Ls := ls.filter fun x => holds p x.ad
def othL (p : Pf) (ls : List Ls) : List Ls := ls.filter fun x => !holds p x.ad
def awayB (p : Pf) (ls : List Ls) (who : ByteArray) : Bool := match zq413 (whoP who) ls with | some i => (match ls[i]? with | some x => !holds p x.ad | none => false) | none => false
def zq486 (p : Pf) (kp : List Ad) (ls : List Ls) (who : ByteArray) (now ttl : Int) : List Ls × Ad × Bool × Unit := rawOf p kp (live (ownL p ls) now) who (now + ttl)
def zq362 (ps : List Pf) (ks : List (List Ad)) (ls : List Ls) (now : Int) (who : ByteArray) (k : Int) (ttl : Int) : DoV :=
 match ps[k.toNat]? with
 | none => errS 5
 | some p => if awayB p ls who = true then errS 6 else if (zq486 p (ks.getD k.toNat []) ls who now ttl).2.2.1 = false then errS 8
  else if (zq486 p (ks.getD k.toNat []) ls who now ttl).1.length + (othL p ls).length > 20 then errS 2
  else okS ps ks (sortL ((zq486 p (ks.getD k.toNat []) ls who now ttl).1 ++ othL p ls)) now (zq486 p (ks.getD k.toNat []) ls who now ttl).2.1
def zq361 (ps : List Pf) (ks : List (List Ad)) (ls : List Ls) (now : Int) (who : ByteArray) : DoV :=
 match zq413 (whoP who) ls with
 | none => errS 5
 | some i => (match ls[i]? with | some x => okS ps ks (ls.take i ++ ls.drop (i + 1)) now x.ad | none => errS 5)
def zq365 (ps : List Pf) (ks : List (List Ad)) (ls : List Ls) (now n : Int) : DoV := if n < now then errS 4 else okS ps ks (live ls n) n noAd
def doOf (ps : List Pf) (ks : List (List Ad)) (ls : List Ls) (now : Int) (o : Oq) : DoV :=
 if formO o ≠ 0 then errS (formO o)
 else if o.kind = 1 then zq364 ps ks ls now o.pf
 else if o.kind = 2 then zq363 ps ks ls now o.ad
 else if o.kind = 3 then zq362 ps ks ls now o.who o.of_ o.n
 else if o.kind = 4 then zq361 ps ks ls now o.who
 else zq365 ps ks ls now o.n
def stDo (ps : List Pf) (ks : List (List Ad)) (ls : List Ls) (now : Int) (o : Oq) : DoV := if chkS ps ks ls now ≠ 0 then errS (chkS ps ks ls now) else doOf ps ks ls now o
theorem zq450 {o : Oq} (h : formO o = 0) (hk : o.kind = 1) : chkP o.pf = 0 ∧ ((wid o.pf.ad.v6 : Nat) : Int) - o.pf.bits ≤ 4 := by
 unfold formO at h
 split at h
 ·cases h
 split at h
 ·cases h
 split at h
 ·rename_i h1; exact absurd h h1
 rename_i h1
 split at h
 ·rename_i h2; exact ⟨zc51.1 h1,h2⟩
 ·cases h
theorem zq448 {o : Oq} (h : formO o = 0) : 1 ≤ o.kind ∧ o.kind ≤ 5 := by
 unfold formO at h
 split at h
 ·cases h
 rename_i hk
 exact zq218.1 (by simpa using hk)
theorem zq451 {o : Oq} (h : formO o = 0) (hk : o.kind = 3 ∨ o.kind = 4) : whoOk o.who = true := by
 unfold formO at h
 split at h
 ·cases h
 split at h
 ·cases h
 rw [if_neg (by omega),if_neg (by omega)] at h
 split at h
 ·cases h
 rename_i h1
 have : o.kind < 5 := by omega
 cases hw : whoOk o.who
 ·exact absurd ⟨this,hw⟩ h1
 ·rfl
theorem zq447 {o : Oq} (h : formO o = 0) (hk : o.kind = 3) : betw o.of_ 0 2 = true ∧ betw o.n 1 500 = true := by
 unfold formO at h
 split at h
 ·cases h
 split at h
 ·cases h
 rw [if_neg (by omega),if_neg (by omega)] at h
 split at h
 ·cases h
 split at h
 ·cases h
 rename_i h2
 cases h1 : betw o.of_ 0 2
 ·exact absurd ⟨hk,.inl h1⟩ h2
 ·cases h3 : betw o.n 1 500
  ·exact absurd ⟨hk,.inr h3⟩ h2
  ·exact ⟨rfl,rfl⟩
theorem zq1582 {α : Type} {q : α → Bool} : ∀ {l : List α},(l.Pairwise fun x y => q y = true → q x = true) → ∀ {i : Nat} {x : α},l[i]? = some x → (q x = true ↔ i < (l.takeWhile q).length)
 | [],_,i,x,h => by simp at h
 | y :: r,hp,i,x,h => by
  obtain ⟨h1,h2⟩ := zc47.1 hp
  rw [List.takeWhile_cons]
  cases hq : q y
  ·simp only [zc16,if_false,zc32,Nat.not_lt_zero,iff_false,Bool.not_eq_true]
   match i with
   | 0 =>
    simp only [zc13,zc2] at h
    rw [← h]; exact hq
   | i + 1 =>
    rw [zc35] at h
    cases hx : q x
    ·rfl
    ·rw [h1 x (zc5 h) hx] at hq; cases hq
  ·simp only [if_true,zc21]
   match i with
   | 0 =>
    simp only [zc13,zc2] at h
    rw [← h,hq]; simp
   | i + 1 =>
    rw [zc35] at h
    rw [zq1582 h2 h]; omega
theorem tw_le {α : Type} (q : α → Bool) (l : List α) : (l.takeWhile q).length ≤ l.length := (List.takeWhile_sublist q).length_le
theorem zq1024 {ps : List Pf} (h : ps.Pairwise zq189) (p : Pf) {i : Nat} {x : Pf} (hx : ps[i]? = some x) : ordP x p < 0 ↔ i < posP p ps := by
 have := zq1582 (q := fun y => decide (ordP y p < 0)) (l := ps) (h.imp fun {a b} hab hb => by
  simp only [decide_eq_true_eq] at hb ⊢
  exact zq955 hab.1 hb) hx
 simpa [posP] using this
theorem zq1025 (p : Pf) (ps : List Pf) : posP p ps ≤ ps.length := tw_le _ _
theorem zq952 {a b c : Ad} (h1 : ordA a b < 0) (h2 : ordA b c < 0) : ordA a c < 0 := by
 have := (zq951 a b).1.1 h1
 have := (zq951 b c).1.1 h2
 exact (zq951 a c).1.2 (by omega)
theorem zq1021 {kp : List Ad} (h : kp.Pairwise fun a b => ordA a b < 0) (p : Ad) {i : Nat} {x : Ad} (hx : kp[i]? = some x) : ordA x p < 0 ↔ i < posA p kp := by
 have := zq1582 (q := fun y => decide (ordA y p < 0)) (l := kp) (h.imp fun {a b} hab hb => by
  simp only [decide_eq_true_eq] at hb ⊢
  exact zq952 hab hb) hx
 simpa [posA] using this
theorem zq1022 (p : Ad) (kp : List Ad) : posA p kp ≤ kp.length := tw_le _ _
theorem zq600 {p : Pf} : ∀ (kp : List Ad) (o : Option Ad),keptF p o kp = 0 ↔ (∀ a ∈ kp,chkA a = 0 ∧ holds p a = true) ∧ (kp.Pairwise fun a b => ordA a b < 0) ∧ ∀ b,o = some b → ∀ a ∈ kp,ordA b a < 0
 | [],o => by simp [keptF]
 | x :: r,o => by
  rw [keptF]
  by_cases h1 : chkA x = 0
  rotate_left
  ·rw [if_pos h1]
   exact ⟨fun h => absurd h h1,fun h => absurd (h.1 x (by simp)).1 h1⟩
  rw [if_neg (fun h => h h1)]
  cases h2 : holds p x
  ·rw [if_pos rfl]
   refine ⟨fun h => (by cases h),fun h => ?_⟩
   rw [(h.1 x (by simp)).2] at h2; cases h2
  rw [if_neg (by simp)]
  by_cases h3 : backB o x = true
  ·rw [if_pos h3]
   refine ⟨fun h => (by cases h),fun h => ?_⟩
   cases o with
   | none => cases h3
   | some b =>
    have := h.2.2 b rfl x (by simp)
    simp only [backB,decide_eq_true_eq] at h3
    omega
  ·rw [if_neg h3,zq600 r (some x)]
   have h4 : ∀ b,o = some b → ordA b x < 0 := fun b hb => by
    subst hb
    simp only [backB,decide_eq_true_eq] at h3
    omega
   constructor
   ·rintro ⟨g1,g2,g3⟩
    refine ⟨fun a ha => ?_,zc47.2 ⟨fun a ha => g3 x rfl a ha,g2⟩,fun b hb a ha => ?_⟩
    ·rcases zc28.1 ha with rfl | ha
     ·exact ⟨h1,h2⟩
     ·exact g1 a ha
    ·rcases zc28.1 ha with rfl | ha
     ·exact h4 b hb
     ·exact zq952 (h4 b hb) (g3 x rfl a ha)
   ·rintro ⟨g1,g2,g3⟩
    obtain ⟨k1,k2⟩ := zc47.1 g2
    exact ⟨fun a ha => g1 a (List.mem_cons_of_mem _ ha),k2,fun b hb a ha => by injection hb with hb; subst hb; exact k1 a ha⟩
theorem zq277 {p : Pf} {kp : List Ad} : zq276 p kp = 0 ↔ chkP p = 0 ∧ ((wid p.ad.v6 : Nat) : Int) - p.bits ≤ 4 ∧ kp.length ≤ 6 ∧ (∀ a ∈ kp,chkA a = 0 ∧ holds p a = true) ∧ kp.Pairwise fun a b => ordA a b < 0 := by
 unfold zq276
 by_cases h1 : chkP p = 0
 rotate_left
 ·rw [if_pos h1]
  exact ⟨fun h => absurd h h1,fun h => absurd h.1 h1⟩
 rw [if_neg (fun h => h h1)]
 by_cases h2 : ((wid p.ad.v6 : Nat) : Int) - p.bits ≤ 4 ∧ kp.length ≤ 6
 ·rw [if_neg (by omega),zq600]
  constructor
  ·rintro ⟨g1,g2,_⟩; exact ⟨h1,h2.1,h2.2,g1,g2⟩
  ·rintro ⟨_,_,_,g1,g2⟩; exact ⟨g1,g2,fun b hb => by cases hb⟩
 ·rw [if_pos (by omega)]
  exact ⟨fun h => (by cases h),fun h => absurd ⟨h.2.1,h.2.2.1⟩ h2⟩
end Go.Ma
namespace Go.Ma
open Go
theorem zq288 {l : List Ad} (h : l.length ≤ 1048576) : zq1269 l = some (l,()) := by
 unfold zq1269
 rw [zq1187 (zq1201 (by simp [lenL]) (zq765 l) (by unfold lenL; simp; omega)),zc44]
 cases l with
 | nil => exact zq231 _
 | cons a r => rfl
theorem StOk.kept {ps : List Pf} {ks : List (List Ad)} {ls : List Ls} {now : Int} (h : StOk ps ks ls now) {i : Nat} {p : Pf} (hp : ps[i]? = some p) : (ks.getD i []).length ≤ 6 := (zq277.1 (h.pool i p hp)).2.2.1
theorem StOk.llen {ps : List Pf} {ks : List (List Ad)} {ls : List Ls} {now : Int} (h : StOk ps ks ls now) : ls.length ≤ 20 := (zq167 h.all).1
theorem zq1387 {ps : List Pf} {ks : List (List Ad)} {ls : List Ls} {now : Int} (h : StOk ps ks ls now) : zq1389 (ps,ks) ls now = some (((ps,ks),ls,now,()),()) := by
 have hpl := h.plen
 have hkl := h.klen
 have hll := h.llen
 unfold zq1389
 rw [zq289 (by omega),zq220,zq370]
 simp only
 have := zq792 (step := zq1381) (fun i => (((),(),(),(lenL ps,()),((i : Int),()),()),(ks,ps,ls,((0 : Int),()),(now,()),([] : List Pf),([] : List Ls),ps.take i,ls,([] : List (List Ad)),ks.take i,()))) ps.length
  (fun _ => some (((),(),()),(ks,ps,ls,((0 : Int),()),(now,()),([] : List Pf),([] : List Ls),ps,ls,([] : List (List Ad)),ks,()))) (fun rec i hi hr => ?_) (fun rec => ?_) FUEL 0 (Nat.zero_le _) (zq463 (by omega))
 ·rw [show ((0 : Nat) : Int) = 0 from rfl,List.take_zero,List.take_zero] at this
  rw [this,zq220]
 ·obtain ⟨p,hp⟩ : ∃ e,ps[i]? = some e := ⟨_,zc0 hi⟩
  have hk6 := h.kept hp
  have e1 : ps.take (i + 1) = ps.take i ++ [p] := by rw [zc26 hi,(zc1.1 hp).2]
  have hik : i < ks.length := by omega
  have e2 : ks.take (i + 1) = ks.take i ++ [ks.getD i []] := by
   rw [zc26 hik,zc3,zc0 hik]
   rfl
  have e3 : padL (ps.take i).length (ks.take i) = ks.take i := zq989 (by simp; omega)
  simp only [zq1381]
  rw [decide_eq_true (show (i : Int) < lenL ps by unfold lenL; omega),zq235,zq1187 (zq525 (by omega) (by unfold lenL; omega)),zq471 hp,zq220,zq469,zq288 (by omega)]
  simp only [zq220,zq370,zq231,e3]
  rw [zq1187 (zq1201 (zq765 _) (zq765 _) (by unfold lenL; simp; omega)),show ((i : Int) + 1) = ((i + 1 : Nat) : Int) by omega,zq1187 (zq519 (by omega) (by omega)),← e1,← e2,hr]
 ·simp only [zq1381]
  rw [decide_eq_false (show ¬ (ps.length : Int) < lenL ps by unfold lenL; omega),zq233,List.take_length,← hkl,List.take_length]
theorem zq1442 (ps : List Pf) (ks : List (List Ad)) {ls : List Ls} (hlen : ls.length ≤ 1048576) (now : Int) (who : ByteArray) : zq58 (ps,ks) ls now who = some (idxI (zq413 (whoP who) ls),()) := by
 unfold zq58
 have := zq522 (step := zq52) ls (whoP who) (fun i => (((),(),(lenL ls,()),((i : Int),()),()),((now,()),ks,ps,ls,(who,()),())))
  (fun o => match o with | some i => Sum.inl ((((i : Int),()),()),((now,()),ks,ps,ls,(who,()),())) | none => Sum.inr ((),((now,()),ks,ps,ls,(who,()),()))) (by omega) (fun rec i x hx hi => ?_) (fun rec => ?_)
 ·rw [show ((0 : Nat) : Int) = 0 from rfl] at this
  simp only
  rw [this,zq220]
  cases zq413 (whoP who) ls <;> rfl
 ·simp only [zq52]
  rw [decide_eq_true (show (i : Int) < lenL ls by unfold lenL; omega),zq235,zq1187 (zq525 (by omega) (by unfold lenL; omega)),zq471 hx,zq220,zq47,zq220,zq1478]
  unfold whoP
  by_cases hc : x.who = who
  ·rw [decide_eq_true hc,zq235,if_pos rfl]
  ·rw [decide_eq_false hc,zq233,if_neg (by simp),show ((i : Int) + 1) = ((i + 1 : Nat) : Int) by omega,zq1187 (zq519 (by omega) (by omega))]
 ·simp only [zq52]
  rw [decide_eq_false (show ¬ (ls.length : Int) < lenL ls by unfold lenL; omega),zq233]
abbrev DPl := List (List Ad) × List Pf × List Ls × (Int × Unit) × (Oq × Unit) × (Int × Unit) × List (List Ad) × List Pf × List Ls × (Ad × Unit) × List (List Ad) × List Pf × List Ls × (Int × Unit) × (Oq × Unit) × (Ad × Unit) × (Pf × Unit) × Unit
abbrev DPl2 := List (List Ad) × List Pf × List Ls × (Int × Unit) × (Oq × Unit) × (Int × Unit) × List (List Ad) × List Pf × List Ls × (Ad × Unit) × List (List Ad) × List Pf × List Ls × (Int × Unit) × (Oq × Unit) × (Ad × Unit) × (Pf × Unit) × (Pf × Unit) × Unit
theorem zq1013 {ps : List Pf} (hp : pfIn ps) (hlen : ps.length ≤ 1048576) (ks : List (List Ad)) (ls : List Ls) (now : Int) (o : Oq) (h1 : o.pf.In) (h2 : chkP o.pf = 0) :
  loopN zq1421 FUEL (((),(),(lenL ps,()),(0,()),()),((ks,ps,ls,(now,()),(o,()),((0 : Int),()),([] : List (List Ad)),([] : List Pf),([] : List Ls),((⟨false,0,0⟩ : Ad),()),ks,ps,ls,(now,()),(o,()),((⟨false,0,0⟩ : Ad),()),(o.pf,()),()) : DPl)) =
   some (match zq413 (fun q => meets q o.pf) ps with
    | some i => Sum.inl ((((i : Int),()),()),((ks,ps,ls,(now,()),(o,()),((0 : Int),()),([] : List (List Ad)),([] : List Pf),([] : List Ls),((⟨false,0,0⟩ : Ad),()),ks,ps,ls,(now,()),(o,()),((⟨false,0,0⟩ : Ad),()),(o.pf,()),()) : DPl))
    | none => Sum.inr ((),((ks,ps,ls,(now,()),(o,()),((0 : Int),()),([] : List (List Ad)),([] : List Pf),([] : List Ls),((⟨false,0,0⟩ : Ad),()),ks,ps,ls,(now,()),(o,()),((⟨false,0,0⟩ : Ad),()),(o.pf,()),()) : DPl))) := by
 have := zq522 (step := zq1421) ps (fun q => meets q o.pf) (fun i => (((),(),(lenL ps,()),((i : Int),()),()),((ks,ps,ls,(now,()),(o,()),((0 : Int),()),([] : List (List Ad)),([] : List Pf),([] : List Ls),((⟨false,0,0⟩ : Ad),()),ks,ps,ls,(now,()),(o,()),((⟨false,0,0⟩ : Ad),()),(o.pf,()),()) : DPl)))
  (fun r => match r with | some i => Sum.inl ((((i : Int),()),()),((ks,ps,ls,(now,()),(o,()),((0 : Int),()),([] : List (List Ad)),([] : List Pf),([] : List Ls),((⟨false,0,0⟩ : Ad),()),ks,ps,ls,(now,()),(o,()),((⟨false,0,0⟩ : Ad),()),(o.pf,()),()) : DPl)) | none => Sum.inr ((),((ks,ps,ls,(now,()),(o,()),((0 : Int),()),([] : List (List Ad)),([] : List Pf),([] : List Ls),((⟨false,0,0⟩ : Ad),()),ks,ps,ls,(now,()),(o,()),((⟨false,0,0⟩ : Ad),()),(o.pf,()),()) : DPl))) (by omega) (fun rec i x hx hi => ?_) (fun rec => ?_)
 ·exact this
 ·obtain ⟨g1,g2⟩ := hp x (zc5 hx)
  simp only [zq1421]
  rw [decide_eq_true (show (i : Int) < lenL ps by unfold lenL; omega),zq235,zq1187 (zq525 (by omega) (by unfold lenL; omega)),zq471 hx,zq220,zq63,zq1067 g1 h1 g2 h2,zq220,zq220]
  simp only [show (over x o.pf || over o.pf x) = meets x o.pf from rfl]
  cases meets x o.pf
  ·rw [show ((i : Int) + 1) = ((i + 1 : Nat) : Int) by omega,zq233,zq1187 (zq519 (by omega) (by omega)),if_neg (by simp)]
  ·rw [zq235,if_pos rfl]
 ·simp only [zq1421]
  rw [decide_eq_false (show ¬ (ps.length : Int) < lenL ps by unfold lenL; omega),zq233]
theorem zq1014 {ps : List Pf} (hp : pfIn ps) (hpw : ps.Pairwise zq189) (hlen : ps.length ≤ 1048576) (ks : List (List Ad)) (ls : List Ls) (now : Int) (o : Oq) (h2 : chkP o.pf = 0) :
  loopN zq1411 FUEL (((),(),(),(lenL ps,()),(0,()),(lenL ps,()),()),((ks,ps,ls,(now,()),(o,()),((0 : Int),()),([] : List (List Ad)),([] : List Pf),([] : List Ls),((⟨false,0,0⟩ : Ad),()),ks,ps,ls,(now,()),(o,()),((⟨false,0,0⟩ : Ad),()),(o.pf,()),(o.pf,()),()) : DPl2)) =
   some (((),(),(),(lenL ps,()),(((posP o.pf ps : Nat) : Int),()),()),((ks,ps,ls,(now,()),(o,()),((0 : Int),()),([] : List (List Ad)),([] : List Pf),([] : List Ls),((⟨false,0,0⟩ : Ad),()),ks,ps,ls,(now,()),(o,()),((⟨false,0,0⟩ : Ad),()),(o.pf,()),(o.pf,()),()) : DPl2)) := by
 refine zq219 (step := zq1411) ps.length (posP o.pf ps) (zq1025 _ _) (by omega)
  (fun i j => (((),(),(),(lenL ps,()),((i : Int),()),((j : Int),()),()),((ks,ps,ls,(now,()),(o,()),((0 : Int),()),([] : List (List Ad)),([] : List Pf),([] : List Ls),((⟨false,0,0⟩ : Ad),()),ks,ps,ls,(now,()),(o,()),((⟨false,0,0⟩ : Ad),()),(o.pf,()),(o.pf,()),()) : DPl2))) _ (fun rec i j hij h3 h4 h5 => ?_) (fun rec => ?_)
 ·obtain ⟨e,he⟩ : ∃ e,ps[(i + j) / 2]? = some e := ⟨_,zc0 (by omega)⟩
  obtain ⟨g1,g2⟩ := hp e (zc5 he)
  have hpos := zq1024 hpw o.pf he
  simp only [zq1411]
  rw [decide_eq_true (show (i : Int) < (j : Int) by omega),zq235,zq1187 (zq519 (by omega) (by omega))]
  simp only [zq499 i j (by omega)]
  rw [zq1187 (zq525 (by omega) (by unfold lenL; omega)),zq471 he,zq220,zq68,zq1073 g2 h2,zq220,zq220]
  by_cases ho : ordP e o.pf < 0
  ·rw [decide_eq_true ho,zq235,if_pos (hpos.1 ho),show (((i + j) / 2 : Nat) : Int) + 1 = (((i + j) / 2 + 1 : Nat) : Int) by omega,zq1187 (zq519 (by omega) (by omega))]
  ·rw [decide_eq_false ho,zq233,if_neg (fun h => ho (hpos.2 h))]
 ·simp only [zq1411]
  rw [decide_eq_false (show ¬ ((posP o.pf ps : Nat) : Int) < ((posP o.pf ps : Nat) : Int) by omega),zq233]
theorem zq187 {α : Type} {q : α → Bool} {l : List α} : l.any q = (zq413 q l).isSome := (zq414 l).symm
theorem zq1159 {ps : List Pf} {ks : List (List Ad)} {ls : List Ls} {now : Int} (h : StOk ps ks ls now) {o : Oq} (ho : o.In) (hf : formO o = 0) (hk : o.kind = 1) : zq1435 (ps,ks) ls now o = some (zq364 ps ks ls now o.pf) := by
 obtain ⟨c1,c2⟩ := zq450 hf hk
 have hpl := h.plen
 have hkl := h.klen
 have hpo := zq1025 o.pf ps
 unfold zq1435 zq364
 rw [zq1378 ho,zq220,hf,decide_eq_true rfl,zc10,zq233,zq1387 h,zq220,decide_eq_true hk,zq235]
 simp only
 rw [zq1013 h.pin (by omega) ks ls now o ho.2.1 c1,zq220,zq187]
 cases hm : zq413 (fun q => meets q o.pf) ps with
 | some i =>
  simp only [sumC,Option.isSome,if_true]
  rw [decide_eq_true (show (i : Int) ≥ 0 by omega),zq235]
  rfl
 | none =>
  simp only [sumC,Option.isSome,zc16,if_false]
  by_cases h3 : ps.length = 3
  ·rw [decide_eq_true (show lenL ps = 3 by unfold lenL; omega),zq235,if_pos h3]; rfl
  ·rw [decide_eq_false (show ¬ lenL ps = 3 by unfold lenL; omega),zq233,if_neg h3,zq1014 h.pin h.pair (by omega) ks ls now o c1,zq220]
   simp only
   have r1 : (decide ((0 : Int) ≤ ((posP o.pf ps : Nat) : Int)) && decide (((posP o.pf ps : Nat) : Int) ≤ lenL ps) && room (lenL ps) 1) = true := by
    rw [decide_eq_true (show (0 : Int) ≤ ((posP o.pf ps : Nat) : Int) by omega),decide_eq_true (show ((posP o.pf ps : Nat) : Int) ≤ lenL ps by unfold lenL; omega),zq1201 (zq765 _) (by omega) (by unfold lenL; omega)]
    rfl
   have r2 : ∃ b,(br (decide (((posP o.pf ps : Nat) : Int) < lenL ps)) (req (zq523 ((posP o.pf ps : Nat) : Int) (lenL ps)) ((geti ps ((posP o.pf ps : Nat) : Int)).bind fun p9 => (zq68 p9 (getL ks ((posP o.pf ps : Nat) : Int)) o.pf).bind fun y10 => some (((posP o.pf ps : Nat) : Int),decide (y10.1 = 0),()))) (some (((posP o.pf ps : Nat) : Int),false,()))) = some (((posP o.pf ps : Nat) : Int),b,()) := by
    by_cases hlt : posP o.pf ps < ps.length
    ·obtain ⟨e,he⟩ : ∃ e,ps[posP o.pf ps]? = some e := ⟨_,zc0 hlt⟩
     obtain ⟨g1,g2⟩ := h.pin e (zc5 he)
     exact ⟨_,by rw [decide_eq_true (show ((posP o.pf ps : Nat) : Int) < lenL ps by unfold lenL; omega),zq235,zq1187 (zq525 (by omega) (by unfold lenL; omega)),zq471 he,zq220,zq68,zq1073 g2 c1,zq220,zq220]⟩
    ·exact ⟨_,by rw [decide_eq_false (show ¬ ((posP o.pf ps : Nat) : Int) < lenL ps by unfold lenL; omega),zq233]⟩
   obtain ⟨b,hb⟩ := r2
   rw [hb,zq220]
   simp only [r1,zq1189,zq370,zq231,zq989 hkl]
   simp [okS,noAd,insL,putAt]
abbrev DKp := List (List Ad) × List Pf × List Ls × (Int × Unit) × (Oq × Unit) × (Int × Unit) × List (List Ad) × List Pf × List Ls × (Ad × Unit) × List (List Ad) × List Pf × List Ls × (Int × Unit) × (Oq × Unit) × (Ad × Unit) × (Ad × Unit) × (Ad × Unit) × Unit
theorem zq595 {kp : List Ad} (hpw : kp.Pairwise fun a b => ordA a b < 0) (hlen : kp.length ≤ 1048576) (ps : List Pf) (ks : List (List Ad)) (ls : List Ls) (now : Int) (o : Oq) {i : Nat} (hkp : ks.getD i [] = kp) :
  loopN zq1402 FUEL ((((i : Int),()),(),(),(lenL kp,()),(0,()),(lenL kp,()),()),((ks,ps,ls,(now,()),(o,()),((0 : Int),()),([] : List (List Ad)),([] : List Pf),([] : List Ls),((⟨false,0,0⟩ : Ad),()),ks,ps,ls,(now,()),(o,()),((⟨false,0,0⟩ : Ad),()),(o.ad,()),(o.ad,()),()) : DKp)) =
   some ((((i : Int),()),(),(),(lenL kp,()),(((posA o.ad kp : Nat) : Int),()),()),((ks,ps,ls,(now,()),(o,()),((0 : Int),()),([] : List (List Ad)),([] : List Pf),([] : List Ls),((⟨false,0,0⟩ : Ad),()),ks,ps,ls,(now,()),(o,()),((⟨false,0,0⟩ : Ad),()),(o.ad,()),(o.ad,()),()) : DKp)) := by
 refine zq219 (step := zq1402) kp.length (posA o.ad kp) (zq1022 _ _) (by omega)
  (fun a b => ((((i : Int),()),(),(),(lenL kp,()),((a : Int),()),((b : Int),()),()),((ks,ps,ls,(now,()),(o,()),((0 : Int),()),([] : List (List Ad)),([] : List Pf),([] : List Ls),((⟨false,0,0⟩ : Ad),()),ks,ps,ls,(now,()),(o,()),((⟨false,0,0⟩ : Ad),()),(o.ad,()),(o.ad,()),()) : DKp))) _ (fun rec a b hij h3 h4 h5 => ?_) (fun rec => ?_)
 ·obtain ⟨e,he⟩ : ∃ e,kp[(a + b) / 2]? = some e := ⟨_,zc0 (by omega)⟩
  have hpos := zq1021 hpw o.ad he
  simp only [zq1402]
  rw [decide_eq_true (show (a : Int) < (b : Int) by omega),zq235,zq1187 (zq519 (by omega) (by omega))]
  simp only [zq499 a b (by omega),zq469,hkp]
  rw [zq1187 (zq525 (by omega) (by unfold lenL; omega)),zq471 he,zq220,zq105,zq220]
  by_cases ho : ordA e o.ad < 0
  ·rw [decide_eq_true ho,zq235,if_pos (hpos.1 ho),show (((a + b) / 2 : Nat) : Int) + 1 = (((a + b) / 2 + 1 : Nat) : Int) by omega,zq1187 (zq519 (by omega) (by omega))]
  ·rw [decide_eq_false ho,zq233,if_neg (fun h => ho (hpos.2 h))]
 ·simp only [zq1402]
  rw [decide_eq_false (show ¬ ((posA o.ad kp : Nat) : Int) < ((posA o.ad kp : Nat) : Int) by omega),zq233]
theorem zq950 {a b : Ad} : ordA a b = 0 ↔ a = b := by
 constructor
 ·intro h
  obtain ⟨h1,h2,h3⟩ := (zq951 a b).2.1 h
  have h1 := kV_inj h1
  obtain ⟨av,ah,al⟩ := a
  obtain ⟨bv,bh,bl⟩ := b
  simp only at h1 h2 h3
  rw [h1,h2,h3]
 ·rintro rfl
  exact (zq951 a a).2.2 ⟨rfl,rfl,rfl⟩
theorem zq1020 {kp : List Ad} (hpw : kp.Pairwise fun a b => ordA a b < 0) (a : Ad) : (match kp[posA a kp]? with | some e => decide (ordA e a = 0) | none => false) = kp.any (fun x => decide (a = x)) := by
 rw [Bool.eq_iff_iff,List.any_eq_true]
 constructor
 ·intro h
  split at h
  ·rename_i e he
   exact ⟨e,zc5 he,by simp [zq950.1 (of_decide_eq_true h)]⟩
  ·cases h
 ·rintro ⟨x,hx,hax⟩
  have hax := of_decide_eq_true hax
  subst hax
  obtain ⟨i,hi⟩ := zc30.1 hx
  have h1 := zq1021 hpw a hi
  have h0 : ¬ ordA a a < 0 := by rw [zq950.2 rfl]; omega
  have hle : posA a kp ≤ i := by
   rcases Nat.lt_or_ge i (posA a kp) with h | h
   ·exact absurd (h1.2 h) h0
   ·exact h
  have hil := (zc1.1 hi).1
  have hpos : posA a kp = i := by
   rcases Nat.lt_or_ge (posA a kp) i with h | h
   ·obtain ⟨e,he⟩ : ∃ e,kp[posA a kp]? = some e := ⟨_,zc0 (by omega)⟩
    have h2 := zq1021 hpw a he
    have h3 : ordA e a < 0 := by
     rw [List.pairwise_iff_getElem] at hpw
     have := hpw _ i (by omega) hil h
     rwa [(zc1.1 he).2,(zc1.1 hi).2] at this
    have := h2.1 h3
    omega
   ·omega
  rw [hpos,hi]
  exact decide_eq_true (zq950.2 rfl)
theorem zq1237 {α : Type} {l : List α} {i : Nat} {x : α} (h : l[i]? = some x) : l.set i x = l := by
 obtain ⟨h1,h2⟩ := zc1.1 h
 rw [← h2]
 exact List.set_getElem_self h1
theorem zq1158 {ps : List Pf} {ks : List (List Ad)} {ls : List Ls} {now : Int} (h : StOk ps ks ls now) {o : Oq} (ho : o.In) (hf : formO o = 0) (hk : o.kind = 2) : zq1435 (ps,ks) ls now o = some (zq363 ps ks ls now o.ad) := by
 have hpl := h.plen
 have hkl := h.klen
 unfold zq1435 zq363
 rw [zq1378 ho,zq220,hf,decide_eq_true rfl,zc10,zq233,zq1387 h,zq220,decide_eq_false (show ¬ o.kind = 1 by omega),zq233,decide_eq_true hk,zq235]
 simp only
 rw [zq1451 h.pin (by omega) ks ls now ho.2.2.1,zq220]
 simp only [zq520]
 cases hx : zq1009 ps o.ad with
 | none => rfl
 | some i =>
  have hil := zq416 hx
  obtain ⟨p,hp⟩ : ∃ e,ps[i]? = some e := ⟨_,zc0 hil⟩
  obtain ⟨k1,k2,k3,k4,k5⟩ := zq277.1 (h.pool i p hp)
  have hik : i < ks.length := by omega
  simp only [Option.isNone,zq233,idxI,zq469]
  have r1 : zq523 (i : Int) (lenL ps) = true := zq525 (by omega) (by unfold lenL; omega)
  have hb := zq595 k5 (by omega) ps ks ls now o (i := i) rfl
  simp only [r1,zq1189,zq471 hp,zq220]
  rw [hb,zq220]
  simp only [zq469]
  generalize hkp : ks.getD i [] = kp at *
  have hpo := zq1022 o.ad kp
  have r2 : (br (decide (((posA o.ad kp : Nat) : Int) < lenL kp)) (req (zq523 ((posA o.ad kp : Nat) : Int) (lenL kp)) ((geti kp ((posA o.ad kp : Nat) : Int)).bind fun p6 => (zq107 p6 o.ad).bind fun y7 => some (((posA o.ad kp : Nat) : Int),decide (y7.1 = 0),()))) (some (((posA o.ad kp : Nat) : Int),false,()))) = some (((posA o.ad kp : Nat) : Int),kp.any (fun x => decide (o.ad = x)),()) := by
   rw [← zq1020 k5]
   by_cases hlt : posA o.ad kp < kp.length
   ·obtain ⟨e,he⟩ : ∃ e,kp[posA o.ad kp]? = some e := ⟨_,zc0 hlt⟩
    rw [decide_eq_true (show ((posA o.ad kp : Nat) : Int) < lenL kp by unfold lenL; omega),zq235,zq1187 (zq525 (by omega) (by unfold lenL; omega)),zq471 he,zq220,zq105,zq220,he]
   ·rw [decide_eq_false (show ¬ ((posA o.ad kp : Nat) : Int) < lenL kp by unfold lenL; omega),zq233,zc22 (by omega)]
  rw [r2,zq220]
  simp only
  cases hany : kp.any (fun x => decide (o.ad = x))
  rotate_left
  ·rfl
  simp only [zq233,zc16,if_false]
  by_cases h6 : kp.length = 6
  ·rw [decide_eq_true (show lenL kp = 6 by unfold lenL; omega),zq235,if_pos h6]; rfl
  rw [decide_eq_false (show ¬ lenL kp = 6 by unfold lenL; omega),zq233,if_neg h6]
  have r3 : (decide ((0 : Int) ≤ ((posA o.ad kp : Nat) : Int)) && decide (((posA o.ad kp : Nat) : Int) ≤ lenL kp) && room (lenL kp) 1) = true := by
   rw [decide_eq_true (show (0 : Int) ≤ ((posA o.ad kp : Nat) : Int) by omega),decide_eq_true (show ((posA o.ad kp : Nat) : Int) ≤ lenL kp by unfold lenL; omega),zq1201 (zq765 _) (by omega) (by unfold lenL; omega)]
   rfl
  simp only [Int.natCast_nonneg,decide_true,Bool.true_and] at r3 ⊢
  simp only [r3,zq1189]
  have e1 : (ks.set i []).length = ps.length := by simp [hkl]
  simp only [seti,outL,zc42,zq989 e1,outL,zc42,zq1237 hp,List.set_set,insL,okS,noAd,putAt]
theorem zq975 {ps : List Pf} {ks : List (List Ad)} {ls : List Ls} {now : Int} (h : StOk ps ks ls now) (p : Pf) : Good p (ownL p ls) := by
 obtain ⟨_,a2,a3,_⟩ := zq167 h.all
 exact ⟨fun x hx => h.lin x (List.mem_filter.1 hx).1,fun x hx => a2 x (List.mem_filter.1 hx).1,fun x hx => (List.mem_filter.1 hx).2,((zq204 h.lin).1 a3).filter _,h.who.filter _⟩
theorem zq976 {ps : List Pf} {ks : List (List Ad)} {ls : List Ls} {now : Int} (h : StOk ps ks ls now) {i : Nat} {p : Pf} (hp : ps[i]? = some p) : chkOf p (ks.getD i []) (ownL p ls) now = 0 :=
 (zq975 h p).ok (h.pin p (zc5 hp)).1 (h.pool i p hp) h.time
section
variable {A R α : Type}
theorem zq443 {step : (A → Option R) → A → Option R} (b : List α) (q : α → Bool) (mk : Nat → List α → List α → A) (out : List α → List α → R) (hlen : b.length < 9223372036854775808)
  (h : ∀ (rec : A → Option R) (i : Nat) (x : α) (acc acc2 : List α),b[i]? = some x → i < b.length → acc.length ≤ i → acc2.length ≤ i → step rec (mk i acc acc2) = rec (mk (i + 1) (if q x then acc ++ [x] else acc) (if q x then acc2 else acc2 ++ [x])))
  (hend : ∀ (rec : A → Option R) (acc acc2 : List α),step rec (mk b.length acc acc2) = some (out acc acc2)) : loopN step FUEL (mk 0 [] []) = some (out (b.filter q) (b.filter fun x => !q x)) := by
 have := zq792 (step := step) (fun i => mk i ((b.take i).filter q) ((b.take i).filter fun x => !q x)) b.length (fun _ => some (out (b.filter q) (b.filter fun x => !q x))) (fun rec i hi hr => ?_) (fun rec => ?_) FUEL 0 (Nat.zero_le _) (zq463 (by omega))
 ·simpa using this
 ·obtain ⟨e,he⟩ : ∃ e,b[i]? = some e := ⟨_,zc0 hi⟩
  have hle : ∀ q : α → Bool,((b.take i).filter q).length ≤ i := fun q => Nat.le_trans (List.length_filter_le _ _) (by simp; omega)
  rw [h rec i e _ _ he hi (hle q) (hle _)]
  have ht : b.take (i + 1) = b.take i ++ [e] := by
   rw [zc26 hi,(zc1.1 he).2]
  rw [ht] at hr
  rw [← hr,List.filter_append,List.filter_append]
  cases hq : q e <;> simp [List.filter,hq]
 ·rw [hend,List.take_length]
end
abbrev DGr := List (List Ad) × List Pf × List Ls × (Int × Unit) × (Oq × Unit) × (Int × Unit) × List (List Ad) × List Pf × List Ls × (Ad × Unit) × List (List Ad) × List Pf × List Ls × (Int × Unit) × (Oq × Unit) × (Ad × Unit) × (Ad × Unit) × (Bool × Int × Int × Int × Int × Unit) × List Ls × List Ls × Unit
theorem zq488 (p : Pf) (cp : chkP p = 0) (ps : List Pf) (ks : List (List Ad)) {ls : List Ls} (hl : lsIn ls) (h20 : ls.length ≤ 20) (now : Int) (o : Oq) :
  loopN zq1393 FUEL (((),(o.who,()),(o.n,()),(),(),(),(),(),(lenL ls,()),(0,()),()),((ks,ps,ls,(now,()),(o,()),((0 : Int),()),([] : List (List Ad)),([] : List Pf),([] : List Ls),((⟨false,0,0⟩ : Ad),()),ks,ps,ls,(now,()),(o,()),((⟨false,0,0⟩ : Ad),()),((⟨false,0,0⟩ : Ad),()),(p.ad.v6,p.ad.hi,p.ad.lo,p.bits,o.of_,()),([] : List Ls),([] : List Ls),()) : DGr)) =
   some (((),(o.who,()),(o.n,()),(),(),(),(),()),((ks,ps,ls,(now,()),(o,()),((0 : Int),()),([] : List (List Ad)),([] : List Pf),([] : List Ls),((⟨false,0,0⟩ : Ad),()),ks,ps,ls,(now,()),(o,()),((⟨false,0,0⟩ : Ad),()),((⟨false,0,0⟩ : Ad),()),(p.ad.v6,p.ad.hi,p.ad.lo,p.bits,o.of_,()),ownL p ls,othL p ls,()) : DGr)) := by
 obtain ⟨b1,b2⟩ := zq274 cp
 refine zq443 (step := zq1393) ls (fun x => holds p x.ad) (fun i a b => (((),(o.who,()),(o.n,()),(),(),(),(),(),(lenL ls,()),((i : Int),()),()),((ks,ps,ls,(now,()),(o,()),((0 : Int),()),([] : List (List Ad)),([] : List Pf),([] : List Ls),((⟨false,0,0⟩ : Ad),()),ks,ps,ls,(now,()),(o,()),((⟨false,0,0⟩ : Ad),()),((⟨false,0,0⟩ : Ad),()),(p.ad.v6,p.ad.hi,p.ad.lo,p.bits,o.of_,()),a,b,()) : DGr)))
  (fun a b => (((),(o.who,()),(o.n,()),(),(),(),(),()),((ks,ps,ls,(now,()),(o,()),((0 : Int),()),([] : List (List Ad)),([] : List Pf),([] : List Ls),((⟨false,0,0⟩ : Ad),()),ks,ps,ls,(now,()),(o,()),((⟨false,0,0⟩ : Ad),()),((⟨false,0,0⟩ : Ad),()),(p.ad.v6,p.ad.hi,p.ad.lo,p.bits,o.of_,()),a,b,()) : DGr))) (by omega) (fun rec i x a b hx hi ha hb => ?_) (fun rec a b => ?_)
 ·simp only [zq1393]
  rw [decide_eq_true (show (i : Int) < lenL ls by unfold lenL; omega),zq235,zq1187 (zq525 (by omega) (by unfold lenL; omega)),zq471 hx,zq220,zq1055 (p := p) b1 b2 (hl x (zc5 hx)).1,zq220]
  rw [show ((i : Int) + 1) = ((i + 1 : Nat) : Int) by omega]
  cases holds p x.ad
  ·rw [zq233,zq1187 (zq1201 (zq765 _) (zq765 _) (by unfold lenL; simp; omega)),zq1187 (zq519 (by omega) (by omega))]
   simp
  ·rw [zq235,zq1187 (zq1201 (zq765 _) (zq765 _) (by unfold lenL; simp; omega)),zq1187 (zq519 (by omega) (by omega))]
   simp
 ·simp only [zq1393]
  rw [decide_eq_false (show ¬ (ls.length : Int) < lenL ls by unfold lenL; omega),zq233]
end Go.Ma
namespace Go.Ma
open Go
theorem zq487 {ps : List Pf} {ks : List (List Ad)} {ls : List Ls} {now : Int} (h : StOk ps ks ls now) {i : Nat} {p : Pf} (hp : ps[i]? = some p) {who : ByteArray} (hs : strIn who) (hw : whoOk who = true) {ttl : Int} (ht : betw ttl 1 500 = true)
  (hr : ¬ (zq486 p (ks.getD i []) ls who now ttl).2.2.1 = false) : Given p (ks.getD i []) (ownL p ls) who now (now + ttl) (zq486 p (ks.getD i []) ls who now ttl).1 (zq486 p (ks.getD i []) ls who now ttl).2.1 := by
 have hg : zq485 p (ks.getD i []) (ownL p ls) who now ttl = ((zq486 p (ks.getD i []) ls who now ttl).1,(zq486 p (ks.getD i []) ls who now ttl).2.1,0,()) := by
  unfold zq485
  unfold zq486 at hr ⊢
  rw [if_neg (fun hh => hh (zq976 h hp)),if_neg (by simp [hw]),if_neg (by simp [ht]),if_neg hr]
 exact (zq475 (h.pin p (zc5 hp)).1 (zq975 h p).ins hs hg).2.2
theorem zq191 : ∀ {l : List Ls},(l.Pairwise fun x y => x.ad ≠ y.ad) → zq188 l = true
 | [],_ => rfl
 | x :: r,h => by
  obtain ⟨h1,h2⟩ := zc47.1 h
  simp only [zq188,zc4,zc17,decide_eq_true_eq]
  exact ⟨fun y hy => Ne.symm (h1 y hy),zq191 h2⟩
theorem zq203 {l : List Ls} (h : l.Pairwise fun x y => rank x.ad < rank y.ad) : l.Pairwise fun x y => x.ad ≠ y.ad := h.imp fun hab e => by rw [e] at hab; omega
theorem zq825 {p : Pf} {m b : List Ls} (hm : m.Pairwise fun x y => x.ad ≠ y.ad) (hb : b.Pairwise fun x y => x.ad ≠ y.ad) (h1 : ∀ x ∈ m,holds p x.ad = true) (h2 : ∀ x ∈ b,holds p x.ad = false) : (m ++ b).Pairwise fun x y => x.ad ≠ y.ad := by
 rw [List.pairwise_append]
 exact ⟨hm,hb,fun x hx y hy e => by
  have e1 := h1 x hx
  rw [e,h2 y hy] at e1
  cases e1⟩
theorem zq958 {ps : List Pf} {ks : List (List Ad)} {ls : List Ls} {now : Int} (h : StOk ps ks ls now) (p : Pf) : (othL p ls).Pairwise fun x y => rank x.ad < rank y.ad := ((zq204 h.lin).1 (zq167 h.all).2.2.1).filter _
theorem zq959 {p : Pf} {ls : List Ls} : ∀ x ∈ othL p ls,holds p x.ad = false := fun x hx => by simpa using (List.mem_filter.1 hx).2
theorem zq824 {ps : List Pf} {ks : List (List Ad)} {ls : List Ls} {now : Int} (h : StOk ps ks ls now) {p : Pf} {kp : List Ad} {l : List Ls} {who : ByteArray} {u : Int} {m : List Ls} {a : Ad} (g : Given p kp l who now u m a) (hlen : m.length + (othL p ls).length ≤ 20) : zq1318 (m ++ othL p ls) = true := by
 unfold zq1318
 have hne : (m ++ othL p ls).isEmpty = false := by
  have := g.mine
  cases m with
  | nil => cases this
  | cons x r => rfl
 rw [hne,zq1201 (zq765 _) (by omega) (by unfold lenL; simp; omega),zq191 (zq825 (zq203 g.good.asc) (zq203 (zq958 h p)) g.good.held zq959)]
 rfl
theorem zq1157 {ps : List Pf} {ks : List (List Ad)} {ls : List Ls} {now : Int} (h : StOk ps ks ls now) {o : Oq} (ho : o.In) (hf : formO o = 0) (hk : o.kind = 3) : zq1435 (ps,ks) ls now o = some (zq362 ps ks ls now o.who o.of_ o.n) := by
 obtain ⟨g1,g2⟩ := zq447 hf hk
 have hw := zq451 hf (.inl hk)
 obtain ⟨o1,o2⟩ := zq218.1 g1
 obtain ⟨n1,n2⟩ := zq218.1 g2
 obtain ⟨t1,t2⟩ := zq218.1 h.time
 have hpl := h.plen
 have hkl := h.klen
 have hll := h.llen
 obtain ⟨k,hk'⟩ : ∃ k : Nat,o.of_ = (k : Int) := ⟨o.of_.toNat,by omega⟩
 unfold zq1435 zq362
 rw [zq1378 ho,zq220,hf,decide_eq_true rfl,zc10,zq233,zq1387 h,zq220,decide_eq_false (show ¬ o.kind = 1 by omega),zq233,decide_eq_false (show ¬ o.kind = 2 by omega),zq233,decide_eq_true hk,zq235]
 simp only
 rw [hk',zc42]
 by_cases hkp : k < ps.length
 rotate_left
 ·rw [decide_eq_true (show (k : Int) ≥ lenL ps by unfold lenL; omega),zq235,zc22 (by omega)]; rfl
 obtain ⟨p,hp⟩ : ∃ e,ps[k]? = some e := ⟨_,zc0 hkp⟩
 obtain ⟨pin,cp⟩ := h.pin p (zc5 hp)
 obtain ⟨b1,b2⟩ := zq274 cp
 rw [decide_eq_false (show ¬ (k : Int) ≥ lenL ps by unfold lenL; omega),zq233,zq1187 (zq525 (by omega) (by unfold lenL; omega)),zq471 hp,zq220,zq1442 ps ks (by omega) now o.who,zq220,hp]
 simp only
 have haw : (br (decide (idxI (zq413 (whoP o.who) ls) ≥ 0)) (req (zq523 (idxI (zq413 (whoP o.who) ls)) (lenL ls)) (req (zq523 (idxI (zq413 (whoP o.who) ls)) (lenL ls)) ((geti ls (idxI (zq413 (whoP o.who) ls))).bind fun p5 => (zq1057 p p5.ad).bind fun y6 => some (!y6.1)))) (some false)) = some (awayB p ls o.who) := by
  unfold awayB
  rw [zq521]
  cases hw : zq413 (whoP o.who) ls with
  | none => rfl
  | some i =>
   have hil := zq416 hw
   obtain ⟨x,hx⟩ : ∃ e,ls[i]? = some e := ⟨_,zc0 hil⟩
   have r1 : zq523 (i : Int) (lenL ls) = true := zq525 (by omega) (by unfold lenL; omega)
   simp only [idxI,hx,Option.isSome]
   rw [zq235,zq1187 r1,zq1187 r1,zq471 hx,zq220,zq1055 b1 b2 (h.lin x (zc5 hx)).1,zq220]
 rw [haw,zq220]
 cases awayB p ls o.who
 rotate_left
 ·rfl
 simp only [zq233,zc16,if_false]
 have hsp := zq488 p cp ps ks h.lin hll now o
 rw [hk'] at hsp
 rw [hsp,zq220,zq370]
 simp only [zq469]
 have hok := zq272 (zq976 h hp)
 have hrw := zq724 (p := p) pin (kp := ks.getD k []) (zq975 h p).ins (now := now) (ttl := o.n) hok.1 hok.2.1 (by omega) (by omega) o.who
 rw [show (⟨(⟨p.ad.v6,p.ad.hi,p.ad.lo⟩ : Ad),p.bits⟩ : Pf) = p from rfl,hrw,zq220]
 show br (!(zq486 p (ks.getD k []) ls o.who now o.n).2.2.1) _ _ = _
 cases hr : (zq486 p (ks.getD k []) ls o.who now o.n).2.2.1
 ·rfl
 have gv := zq487 h hp ho.2.2.2.1 hw g2 (by rw [hr]; simp)
 unfold zq486 at gv ⊢
 simp only [zc10,zq233,Bool.true_eq_false,if_false]
 have hml := gv.good.len pin cp (zq278 (h.pool k p hp)).2.1
 have hol : (othL p ls).length ≤ 20 := Nat.le_trans (List.length_filter_le _ _) hll
 generalize hR : rawOf p (ks.getD k []) (live (ownL p ls) now) o.who (now + o.n) = r at *
 rw [zq1187 (zq519 (by unfold lenL; omega) (by unfold lenL; omega))]
 by_cases h20 : r.1.length + (othL p ls).length > 20
 ·rw [decide_eq_true (show lenL r.1 + lenL (othL p ls) > 20 by unfold lenL; omega),zq235,if_pos h20]; rfl
 ·rw [decide_eq_false (show ¬ lenL r.1 + lenL (othL p ls) > 20 by unfold lenL; omega),zq233,if_neg h20,zq1187 (zq1201 (zq765 _) (zq765 _) (by unfold lenL; omega)),zq1187 (zq824 h gv (by omega))]
  rfl
theorem zq1156 {ps : List Pf} {ks : List (List Ad)} {ls : List Ls} {now : Int} (h : StOk ps ks ls now) {o : Oq} (ho : o.In) (hf : formO o = 0) (hk : o.kind = 4) : zq1435 (ps,ks) ls now o = some (zq361 ps ks ls now o.who) := by
 have hll := h.llen
 unfold zq1435 zq361
 rw [zq1378 ho,zq220,hf,decide_eq_true rfl,zc10,zq233,zq1387 h,zq220,decide_eq_false (show ¬ o.kind = 1 by omega),zq233,decide_eq_false (show ¬ o.kind = 2 by omega),zq233,decide_eq_false (show ¬ o.kind = 3 by omega),zq233,decide_eq_true hk,zq235]
 simp only
 rw [zq1442 ps ks (by omega) now o.who,zq220]
 simp only [zq520]
 cases hw : zq413 (whoP o.who) ls with
 | none => rfl
 | some i =>
  have hil := zq416 hw
  obtain ⟨x,hx⟩ : ∃ e,ls[i]? = some e := ⟨_,zc0 hil⟩
  have r1 : zq523 (i : Int) (lenL ls) = true := zq525 (by omega) (by unfold lenL; omega)
  have r2 : (decide ((0 : Int) ≤ (i : Int)) && decide ((i : Int) ≤ (i : Int) + 1) && decide ((i : Int) + 1 ≤ lenL ls)) = true := by
   rw [decide_eq_true (show (0 : Int) ≤ (i : Int) by omega),decide_eq_true (show (i : Int) ≤ (i : Int) + 1 by omega),decide_eq_true (show (i : Int) + 1 ≤ lenL ls by unfold lenL; omega)]
   rfl
  have e1 : ((i : Int) + 1).toNat = i + 1 := by omega
  simp only [Option.isNone,zq233]
  rw [show idxI (some i) = (i : Int) from rfl,zq1187 r1,zq1187 r1,zq471 hx,zq220,zq1187 (zq519 (by omega) (by omega)),zq1187 r2,hx]
  simp only [okS,delL,e1,zc42]
theorem zq1160 {ps : List Pf} {ks : List (List Ad)} {ls : List Ls} {now : Int} (h : StOk ps ks ls now) {o : Oq} (ho : o.In) (hf : formO o = 0) (hk : o.kind = 5) : zq1435 (ps,ks) ls now o = some (zq365 ps ks ls now o.n) := by
 have hll := h.llen
 unfold zq1435 zq365
 rw [zq1378 ho,zq220,hf,decide_eq_true rfl,zc10,zq233,zq1387 h,zq220,decide_eq_false (show ¬ o.kind = 1 by omega),zq233,decide_eq_false (show ¬ o.kind = 2 by omega),zq233,decide_eq_false (show ¬ o.kind = 3 by omega),zq233,decide_eq_false (show ¬ o.kind = 4 by omega),zq233]
 simp only
 by_cases hn : o.n < now
 ·rw [decide_eq_true hn,zq235,if_pos hn]; rfl
 ·rw [decide_eq_false hn,zq233,if_neg hn,zq681 (by omega),zq220]; rfl
theorem zq1433 {ps : List Pf} {ks : List (List Ad)} {ls : List Ls} {now : Int} (h : StOk ps ks ls now) {o : Oq} (ho : o.In) : zq1435 (ps,ks) ls now o = some (doOf ps ks ls now o) := by
 unfold doOf
 by_cases hf : formO o = 0
 rotate_left
 ·rw [if_pos hf]
  unfold zq1435
  rw [zq1378 ho,zq220,decide_eq_false hf,zc19,zq235]
  rfl
 rw [if_neg (fun hh => hh hf)]
 have hk := zq448 hf
 by_cases k1 : o.kind = 1
 ·rw [if_pos k1,zq1159 h ho hf k1]
 by_cases k2 : o.kind = 2
 ·rw [if_neg k1,if_pos k2,zq1158 h ho hf k2]
 by_cases k3 : o.kind = 3
 ·rw [if_neg k1,if_neg k2,if_pos k3,zq1157 h ho hf k3]
 by_cases k4 : o.kind = 4
 ·rw [if_neg k1,if_neg k2,if_neg k3,if_pos k4,zq1156 h ho hf k4]
 ·rw [if_neg k1,if_neg k2,if_neg k3,if_neg k4,zq1160 h ho hf (by omega)]
theorem zq1372 {ps : List Pf} (hp : ∀ p ∈ ps,p.In) {ks : List (List Ad)} (hk : kpIn ks) {ls : List Ls} (hl : lsIn ls) (hlen : ks.length = ps.length) (now : Int) {o : Oq} (ho : o.In) : zq1374 (ps,ks) ls now o = some (stDo ps ks ls now o) := by
 unfold zq1374 stDo
 rw [zq1366 hp hk hl,zq220]
 by_cases hc : chkS ps ks ls now = 0
 rotate_left
 ·rw [decide_eq_false hc,zc19,zq235,if_pos hc]; rfl
 rw [decide_eq_true hc,zc10,zq233,if_neg (fun hh => hh hc),zq1433 (zq1346 hp hk hl hlen hc) ho,zq220]
end Go.Ma
namespace Go.Ma
open Go
end Go.Ma
namespace Go.Ma
open Go
end Go.Ma
namespace Go.Ma
open Go
def sop1 : Oq := ⟨1,⟨⟨false,0,8⟩,30⟩,⟨false,0,0⟩,ByteArray.empty,0,0⟩
def sop2 : Oq := ⟨2,⟨⟨false,0,0⟩,0⟩,⟨false,0,8⟩,ByteArray.empty,0,0⟩
def sop3 : Oq := ⟨3,⟨⟨false,0,0⟩,0⟩,⟨false,0,0⟩,⟨#[120]⟩,0,10⟩
def sop4 : Oq := ⟨4,⟨⟨false,0,0⟩,0⟩,⟨false,0,0⟩,⟨#[120]⟩,0,0⟩
def sop5 : Oq := ⟨5,⟨⟨false,0,0⟩,0⟩,⟨false,0,0⟩,ByteArray.empty,0,11⟩
theorem zq1312 {k : Int} (hk : i64In k) {p : Pf} (hp : p.In) {a : Ad} (ha : a.In) {w : ByteArray} (hw : strIn w) {f n : Int} (hf : i64In f) (hn : i64In n) : (⟨k,p,a,w,f,n⟩ : Oq).In := ⟨hk,hp,ha,hw,hf,hn⟩
theorem zq1473 : strIn ByteArray.empty := by unfold strIn maxLen; decide
theorem zq851 : (⟨false,0,0⟩ : Ad).In := ⟨⟨by decide,by decide⟩,by decide,by decide⟩
theorem zq856 : (⟨⟨false,0,0⟩,0⟩ : Pf).In := ⟨zq851,by decide,by decide⟩
theorem zq1307 : sop1.In := zq1312 ⟨by decide,by decide⟩ zq1149 zq851 zq1473 ⟨by decide,by decide⟩ ⟨by decide,by decide⟩
theorem zq1308 : sop2.In := zq1312 ⟨by decide,by decide⟩ zq856 ⟨⟨by decide,by decide⟩,by decide,by decide⟩ zq1473 ⟨by decide,by decide⟩ ⟨by decide,by decide⟩
theorem zq1309 : sop3.In := zq1312 ⟨by decide,by decide⟩ zq856 zq851 wx_in ⟨by decide,by decide⟩ ⟨by decide,by decide⟩
theorem zq1310 : sop4.In := zq1312 ⟨by decide,by decide⟩ zq856 zq851 wx_in ⟨by decide,by decide⟩ ⟨by decide,by decide⟩
theorem zq1311 : sop5.In := zq1312 ⟨by decide,by decide⟩ zq856 zq851 zq1473 ⟨by decide,by decide⟩ ⟨by decide,by decide⟩
theorem zq920 : formO sop1 = 0 ∧ formO sop2 = 0 ∧ formO sop3 = 0 ∧ formO sop4 = 0 ∧ formO sop5 = 0 := by
 refine ⟨?_,?_,?_,?_,?_⟩ <;> (unfold formO zq400; simp only [zq1479,zq397,zq390]; decide +kernel)
def sP : List Pf := [⟨⟨false,0,8⟩,30⟩]
def sK : List (List Ad) := [[⟨false,0,8⟩]]
def sL : List Ls := [⟨⟨false,0,9⟩,⟨#[120]⟩,10⟩]
theorem sP_in : ∀ p ∈ sP,p.In := fun p hp => by
 simp only [sP,zc39] at hp
 subst hp
 exact zq1149
theorem sK_in : kpIn sK := fun k hk => by
 simp only [sK,zc39] at hk
 subst hk
 exact zq601
theorem sK0_in : kpIn [[]] := fun k hk => by
 simp only [zc39] at hk
 subst hk
 exact fun a ha => by cases ha
theorem sL_in : lsIn sL := fun x hx => by
 simp only [sL,zc39] at hx
 subst hx
 exact ⟨⟨⟨by decide,by decide⟩,by decide,by decide⟩,wx_in,by decide,by decide⟩
theorem zq1344 {ps : List Pf} {ks : List (List Ad)} {ls : List Ls} {now : Int} {o : Oq} (h : chkS ps ks ls now = 0) (hf : formO o = 0) {y : DoV}
  (hy : (if o.kind = 1 then zq364 ps ks ls now o.pf else if o.kind = 2 then zq363 ps ks ls now o.ad else if o.kind = 3 then zq362 ps ks ls now o.who o.of_ o.n else if o.kind = 4 then zq361 ps ks ls now o.who else zq365 ps ks ls now o.n) = y) : stDo ps ks ls now o = y := by
 unfold stDo doOf
 rw [if_neg (fun hh => hh h),if_neg (fun hh => hh hf)]
 exact hy
theorem sc0 : chkS [] [] [] 0 = 0 := by decide +kernel
theorem sc1 : chkS sP [[]] [] 0 = 0 := by decide +kernel
theorem sc2 : chkS sP sK [] 0 = 0 := by decide +kernel
theorem sc3 : chkS sP sK sL 0 = 0 := by decide +kernel
theorem sd1 : stDo [] [] [] 0 sop1 = okS sP [[]] [] 0 noAd := zq1344 sc0 zq920.1 (by decide +kernel)
theorem sd2 : stDo sP [[]] [] 0 sop2 = okS sP sK [] 0 noAd := zq1344 sc1 zq920.2.1 (by decide +kernel)
theorem sd3 : stDo sP sK [] 0 sop3 = okS sP sK sL 0 ⟨false,0,9⟩ := zq1344 sc2 zq920.2.2.1 (by decide +kernel)
theorem sd4 : stDo sP sK sL 0 sop4 = okS sP sK [] 0 ⟨false,0,9⟩ := zq1344 sc3 zq920.2.2.2.1 (by decide +kernel)
theorem sd5 : stDo sP sK sL 0 sop5 = okS sP sK [] 11 noAd := zq1344 sc3 zq920.2.2.2.2 (by decide +kernel)
theorem zq1002 : ∀ p ∈ ([] : List Pf),p.In := fun p hp => by cases hp
theorem zq608 : kpIn ([] : List (List Ad)) := fun p hp => by cases hp
theorem zq640 : zq642 = some ([sop1,sop2,sop3],()) := rfl
def doMk (l : List Oq) (i : Nat) (y : DoV) : (((Unit) × (Unit) × (Unit) × (Unit) × (Unit) × (Int × Unit) × Unit) × (List Oq × (Int × Unit) × (Ad × Unit) × (Int × Unit) × (Ad × Unit) × List Pf × List Ls × List Pf × List Ls × List (List Ad) × List (List Ad) × Unit)) :=
 (((),(),(),(),(),((i : Int),()),()),(l,(0,()),((⟨false,0,0⟩ : Ad),()),(y.1.2.2.1,()),(y.2.1,()),([] : List Pf),([] : List Ls),y.1.1.1,y.1.2.1,([] : List (List Ad)),y.1.1.2,()))
theorem zq366 {l : List Oq} {i : Nat} {o : Oq} (ho : l[i]? = some o) (hlen : l.length ≤ 1000) (rec) (y : DoV) {ps : List Pf} {ks : List (List Ad)} {ls : List Ls} {now : Int} {a : Ad} (e : zq1374 y.1.1 y.1.2.1 y.1.2.2.1 o = some (okS ps ks ls now a)) : zq623 rec (doMk l i y) = rec (doMk l (i + 1) (okS ps ks ls now a)) := by
 have hi := (zc1.1 ho).1
 have e' : zq1374 (y.1.1.1,y.1.1.2) y.1.2.1 y.1.2.2.1 o = some (okS ps ks ls now a) := e
 unfold doMk
 simp only [zq623]
 rw [decide_eq_true (show (i : Int) < lenL l by unfold lenL; omega),zq235,zq1187 (zq525 (by omega) (by unfold lenL; omega)),zq471 ho,zq220,e']
 simp only [zq220,zq370,zq231]
 rw [decide_eq_true (show (okS ps ks ls now a).2.2.1 = 0 from rfl),zc10,zq233,zq1187 (zq519 (by omega) (by omega))]
 rfl
theorem do_end (l : List Oq) (rec) (y : DoV) : zq623 rec (doMk l l.length y) = some (Sum.inr (((),(),(),(),()),(doMk l l.length y).2)) := by
 unfold doMk
 simp only [zq623]
 rw [decide_eq_false (show ¬ (l.length : Int) < lenL l by unfold lenL; omega),zq233]
theorem zq629 : zq631 [sop1,sop2,sop3] = some (okS sP sK sL 0 ⟨false,0,9⟩) := by
 unfold zq631
 have e1 := zq1372 zq1002 zq608 zq802 rfl 0 zq1307
 have e2 := zq1372 sP_in sK0_in zq802 rfl 0 zq1308
 have e3 := zq1372 sP_in sK_in zq802 rfl 0 zq1309
 rw [sd1] at e1
 rw [sd2] at e2
 rw [sd3] at e3
 obtain ⟨n,hn⟩ : ∃ n,FUEL = n + 1 + 1 + 1 + 1 := by
  have := zq463 (n := 100) (by omega)
  exact ⟨FUEL - 4,by omega⟩
 have hl : loopN zq623 FUEL (doMk [sop1,sop2,sop3] 0 (okS [] [] [] 0 noAd)) = some (Sum.inr (((),(),(),(),()),(doMk [sop1,sop2,sop3] 3 (okS sP sK sL 0 ⟨false,0,9⟩)).2)) := by
  rw [hn,zq789,zq366 (o := sop1) rfl (by decide) _ _ e1,zq789,zq366 (o := sop2) rfl (by decide) _ _ e2,zq789,zq366 (o := sop3) rfl (by decide) _ _ e3,zq789]
  exact do_end [sop1,sop2,sop3] _ _
 have e0 : (loopN zq623 FUEL (doMk [sop1,sop2,sop3] 0 (okS [] [] [] 0 noAd))).bind (fun y1 => sumC y1 (fun y2 => some (((y2.2.2.2.2.1,y2.2.2.2.2.2.2.1),y2.2.2.2.2.2.1,y2.2.2.1.1,()),y2.2.2.2.1.1,y2.1.2.2.1.1,())) (fun y3 => some (((y3.2.2.2.2.2.2.2.2.1,y3.2.2.2.2.2.2.2.2.2.2.2.1),y3.2.2.2.2.2.2.2.2.2.1,y3.2.2.2.2.1.1,()),y3.2.2.2.2.2.1.1,0,()))) = some (okS sP sK sL 0 ⟨false,0,9⟩) := by
  rw [hl,zq220]; rfl
 exact e0
theorem zq1353 : zq647 = some (true,()) := by
 unfold zq647
 have e4 := zq1372 sP_in sK_in sL_in rfl 0 zq1310
 have e5 := zq1372 sP_in sK_in sL_in rfl 0 zq1311
 have e6 := zq1366 sP_in sK_in sL_in 0
 have e7 := zq1378 zq1307
 rw [sd4] at e4
 rw [sd5] at e5
 rw [sc3] at e6
 rw [zq920.1] at e7
 rw [zq640,zq220]
 simp only
 rw [zq629,zq220]
 show (zq1374 (sP,sK) sL 0 sop4).bind _ = _
 rw [e4,zq220]
 show (zq1374 (sP,sK) sL 0 sop5).bind _ = _
 rw [e5,zq220]
 show (zq1368 (sP,sK) sL 0).bind _ = _
 rw [e6,zq220]
 simp only [decide_true,zq235,zq220]
 rw [zq1187 (show zq523 0 (lenL [sop1,sop2,sop3]) = true by decide),show geti [sop1,sop2,sop3] 0 = some sop1 from rfl,zq220,e7,zq220]
 rfl
end Go.Ma
namespace Go.Ma
open Go
theorem zq314 : ∀ (l r : List UInt8) (acc : Nat),Lib.decFrom acc (l ++ r) = (Lib.decFrom acc l).bind fun m => Lib.decFrom m r
 | [],r,acc => rfl
 | b :: l,r,acc => by
  simp only [List.cons_append,Lib.decFrom]
  cases Lib.digitVal b with
  | none => rfl
  | some d => exact zq314 l r _
theorem zq354 (d : Nat) (h : d < 10) : Lib.digitVal (UInt8.ofNat (48 + d)) = some d := by
 have : ∀ d : Fin 10,Lib.digitVal (UInt8.ofNat (48 + d.val)) = some d.val := by decide
 exact this ⟨d,h⟩
theorem zq353 (d : Nat) (h : d < 10) : 48 ≤ (UInt8.ofNat (48 + d)).toNat ∧ (UInt8.ofNat (48 + d)).toNat ≤ 57 := by
 have : ∀ d : Fin 10,48 ≤ (UInt8.ofNat (48 + d.val)).toNat ∧ (UInt8.ofNat (48 + d.val)).toNat ≤ 57 := by decide
 exact this ⟨d,h⟩
theorem zq315 (u : Nat) : Lib.decFrom 0 (Lib.decDigits u) = some u := by
 induction u using Nat.strongRecOn with
 | ind u ih =>
  rw [Lib.decDigits]
  by_cases h : u < 10
  ·rw [dif_pos h]
   simp only [Lib.decFrom,zq354 u h,Nat.zero_mul,Nat.zero_add]
  ·rw [dif_neg h,zq314,ih (u / 10) (by omega)]
   simp only [Option.bind_some,Lib.decFrom,zq354 (u % 10) (by omega)]
   congr 1
   omega
theorem zq332 : ∀ (k u : Nat),u < 10 ^ (k + 1) → (Lib.decDigits u).length ≤ k + 1
 | 0,u,h => by rw [Lib.decDigits,dif_pos (by simpa using h)]; simp
 | k + 1,u,h => by
  rw [Lib.decDigits]
  by_cases h1 : u < 10
  ·rw [dif_pos h1]; simp
  ·rw [dif_neg h1]
   have := zq332 k (u / 10) (by
    have : (10 : Nat) ^ (k + 1 + 1) = 10 ^ (k + 1) * 10 := by rw [Nat.pow_succ]
    omega)
   simp only [zc24,zc21,zc32]
   omega
theorem zq329 (u : Nat) : ∀ c ∈ Lib.decDigits u,48 ≤ c.toNat ∧ c.toNat ≤ 57 := by
 induction u using Nat.strongRecOn with
 | ind u ih =>
  rw [Lib.decDigits]
  by_cases h : u < 10
  ·rw [dif_pos h]
   intro c hc
   simp only [zc39] at hc
   subst hc
   exact zq353 u h
  ·rw [dif_neg h]
   intro c hc
   rcases zc36.1 hc with hc | hc
   ·exact ih (u / 10) (by omega) c hc
   ·simp only [zc39] at hc
    subst hc
    exact zq353 (u % 10) (by omega)
theorem zq334 (u : Nat) (b : UInt8) (hb : b.toNat < 48) : b ∉ Lib.decDigits u := fun h => by
 have := (zq329 u b h).1
 omega
theorem zq333 (u : Nat) : ∃ b r,Lib.decDigits u = b :: r := by
 cases h : Lib.decDigits u with
 | cons b r => exact ⟨b,r,rfl⟩
 | nil =>
  rw [Lib.decDigits] at h
  split at h <;> simp at h
theorem zq206 (u : Nat) (h : u < 10000) : Lib.atoiAll (Lib.decDigits u) = .ok (u : Int) := by
 have hl := zq332 3 u h
 rw [Lib.atoiAll_short _ (by omega)]
 have : Lib.atoi (Lib.decDigits u) = some (u : Int) := by
  obtain ⟨b,r,hb⟩ := zq333 u
  have hc := zq329 u b (by rw [hb]; simp)
  have hd := zq315 u
  rw [hb] at hd ⊢
  have h1 : (b == 45) = false := beq_eq_false_iff_ne.2 fun e => by subst e; simp at hc
  have h2 : (b == 43) = false := beq_eq_false_iff_ne.2 fun e => by subst e; simp at hc
  simp only [Lib.atoi,h1,h2,zc16,if_false,Lib.decNat,List.isEmpty_cons,hd,Option.map_some]
 rw [this]
 rfl
def Wd (l : List UInt8) : ByteArray := ⟨l.toArray⟩
theorem zq1625 (l : List UInt8) : (Wd l).data.toList = l := by simp [Wd]
theorem zq1626 (l : List UInt8) : (Wd l).size = l.length := by simp [Wd,ByteArray.size]
theorem zq579 {u : Nat} (h : u < 1000000) : zq1485 (u : Int) = some (Wd (Lib.decDigits u),()) := by
 unfold zq1485
 rw [zq1187 (by rw [zc4,decide_eq_true_iff,decide_eq_true_iff]; omega),zc42]
 rfl
theorem zq356 {s : ByteArray} (hs : s.size ≤ 1073741824) : zq1051 s = some (digN s,digB s,()) := by
 unfold zq1051
 rw [zq1187 (Nat.ble_eq_true_of_le hs)]
theorem zq350 (s : ByteArray) : i64In (digN s) := by
 unfold digN
 cases h : Lib.atoiAll s.data.toList with
 | ok v =>
  obtain ⟨a,b⟩ := Lib.atoiAll_bounds h
  exact ⟨by show -9223372036854775808 ≤ v; omega,by show v < 9223372036854775808; omega⟩
 | range =>
  obtain ⟨a,b⟩ := Lib.atoiSat_bounds s.data.toList
  exact ⟨by show -9223372036854775808 ≤ Lib.atoiSat s.data.toList; omega,by show Lib.atoiSat s.data.toList < 9223372036854775808; omega⟩
 | _ => exact ⟨by show (-9223372036854775808 : Int) ≤ 0; omega,by show (0 : Int) < 9223372036854775808; omega⟩
theorem zq351 {u : Nat} (h : u < 10000) : digN (Wd (Lib.decDigits u)) = (u : Int) ∧ digB (Wd (Lib.decDigits u)) = true := by
 have hl := zq332 3 u h
 constructor
 ·unfold digN
  rw [zq1625,zq206 u h]
 ·unfold digB
  rw [zq1625,zq206 u h]
  simp only
  rw [zq1626,decide_eq_true (show (0 : Int) ≤ (u : Int) by omega),decide_eq_true (show (Lib.decDigits u).length ≤ 4 by omega),Go.beq_toListBytes]
  simp [Wd]
theorem hex_no (g : Nat) (h : g < 65536) (b : UInt8) (hb : b.toNat < 48) : b ∉ hex4 g := fun hc => by
 have key : ∀ d : Nat,d < 16 → b ≠ hexD d := by
  have : ∀ d : Fin 16,48 ≤ (hexD d.val).toNat := by decide
  intro d hd e
  have := this ⟨d,hd⟩
  rw [e] at hb
  simp only at this
  omega
 unfold hex4 at hc
 split at hc
 ·simp only [zc39] at hc
  exact key _ (by omega) hc
 split at hc
 ·simp only [zc28,zc38,or_false] at hc
  rcases hc with hc | hc <;> exact key _ (by omega) hc
 split at hc
 ·simp only [zc28,zc38,or_false] at hc
  rcases hc with hc | hc | hc <;> exact key _ (by omega) hc
 ·simp only [zc28,zc38,or_false] at hc
  rcases hc with hc | hc | hc | hc <;> exact key _ (by omega) hc
theorem zq854 {gs : List Nat} (h : ∀ g ∈ gs,g < 65536) (b : UInt8) (hb : b.toNat < 48) : b ∉ joinG gs := fun hc => by
 unfold joinG at hc
 rcases zq591 58 b _ hc with ⟨x,hx,h2⟩ | ⟨e,_⟩
 ·obtain ⟨g,hg,rfl⟩ := List.mem_map.1 hx
  exact hex_no g (h g hg) b hb h2
 ·subst e; simp at hb
theorem zq855 {a : Ad} {T : List UInt8} (h : Six a T) (b : UInt8) (hb : b.toNat < 48) : b ∉ T := by
 rcases h with rfl | ⟨x,m,_,_,rfl⟩
 ·exact zq854 (zq496 a) b hb
 ·intro hc
  rcases zc36.1 hc with hc | hc
  ·rcases zc36.1 hc with hc | hc
   ·exact zq854 (fun g hg => zq496 a g (List.mem_of_mem_take hg)) b hb hc
   ·simp only [zc28,zc38,or_false] at hc
    rcases hc with hc | hc <;> (subst hc; simp at hb)
  ·exact zq854 (fun g hg => zq496 a g (List.mem_of_mem_drop hg)) b hb hc
theorem zq852 (n : Nat) (h : n < 1000) (b : UInt8) (hb : b.toNat < 46) : b ∉ dec3 n := fun hc => by
 rw [← zq312 n h] at hc
 have := (zq329 n b hc).1
 omega
theorem zq853 (n : Nat) (b : UInt8) (hb : b.toNat < 46) : b ∉ text4 n := fun hc => by
 unfold text4 at hc
 rcases zq591 46 b _ hc with ⟨x,hx,h2⟩ | ⟨e,_⟩
 ·simp only [zc28,zc38,or_false] at hx
  rcases hx with rfl | rfl | rfl | rfl <;> exact zq852 _ (by omega) b hb h2
 ·subst e; simp at hb
theorem zq857 (n : Nat) : (47 : UInt8) ∉ text4 n := fun hc => by
 unfold text4 at hc
 rcases zq591 46 47 _ hc with ⟨x,hx,h2⟩ | ⟨e,_⟩
 ·simp only [zc28,zc38,or_false] at hx
  rcases hx with rfl | rfl | rfl | rfl <;> exact ((zq311 _ (by omega)).2.2 _ h2).2.2 rfl
 ·exact absurd e (by decide)
theorem zq1547 {a : Ad} (h : a.wf) (hc : chkA a = 0) : ∃ T : List UInt8,zq122 a = some (Wd T,()) ∧ zq113 (Wd T) = some (a,0,()) ∧ T.length ≤ 39 ∧ (47 : UInt8) ∉ T ∧ (32 : UInt8) ∉ T := by
 obtain ⟨T,t1,t2,t3⟩ := zq1546 h hc
 refine ⟨T,t1,?_,t3,?_⟩
 ·rw [zq111 (by rw [zq1626]; omega)]
  unfold zq994
  rw [show (Wd T) = (⟨T.toArray⟩ : ByteArray) from rfl,t2]
 ·cases hv : a.v6
  ·have e := zq1565 h hv
   rw [t1] at e
   simp only [zc2,zc11,and_true] at e
   have e2 : T = text4 a.lo.toNat := by
    have := congrArg (fun s : ByteArray => s.data.toList) e
    simpa using this
   rw [e2]
   exact ⟨zq857 _,zq853 _ _ (by decide)⟩
  ·obtain ⟨T',e,h6⟩ := text6 h hv
   rw [t1] at e
   simp only [zc2,zc11,and_true] at e
   have e2 : T = T' := by
    have := congrArg (fun s : ByteArray => s.data.toList) e
    simpa using this
   rw [e2]
   exact ⟨zq855 h6 _ (by decide),zq855 h6 _ (by decide)⟩
theorem zq303 {T D : List UInt8} (hT : (47 : UInt8) ∉ T) (hl : T.length + D.length < 1000000000) : zq1490 (Wd (T ++ 47 :: D)) (⟨#[47]⟩ : ByteArray) = some (Wd T,Wd D,true,()) := by
 have hi : zq573 (Wd (T ++ 47 :: D)) (⟨#[47]⟩ : ByteArray) = some ((T.length : Int),()) := by
  unfold zq573
  show some (Lib.indexByte (Wd (T ++ 47 :: D)).data.toList 47,()) = _
  rw [zq1625,zq242 T D 47 hT]
 have hS : lenS (Wd (T ++ 47 :: D)) = (T.length : Int) + 1 + (D.length : Int) := by
  unfold lenS
  rw [zq1626]
  simp
  omega
 have h1 : lenS (⟨#[47]⟩ : ByteArray) = 1 := rfl
 have c1 : (true && decide ((T.length : Int) ≤ (T.length : Int) + 1 + (D.length : Int))) = true := by simp; omega
 have c2 : ((decide (0 ≤ (T.length : Int) + 1) && decide ((T.length : Int) + 1 ≤ (T.length : Int) + 1 + (D.length : Int))) && decide ((T.length : Int) + 1 + (D.length : Int) ≤ (T.length : Int) + 1 + (D.length : Int))) = true := by simp; omega
 unfold zq1490 zq570
 rw [hi,zq220,hS,h1]
 simp only
 rw [decide_eq_true (show (T.length : Int) ≥ 0 by omega),zq235,zq1187 c1,zq1187 (zq519 (by omega) (by omega)),zq1187 c2,zq220]
 have e1 : subS (Wd (T ++ 47 :: D)) 0 (T.length : Int) = Wd T := by
  apply ByteArray.ext
  simp [subS,Wd,ByteArray.data_extract]
 have e2 : subS (Wd (T ++ 47 :: D)) ((T.length : Int) + 1) ((T.length : Int) + 1 + (D.length : Int)) = Wd D := by
  apply ByteArray.ext
  have q1 : ((T.length : Int) + 1).toNat = T.length + 1 := by omega
  have q2 : ((T.length : Int) + 1 + (D.length : Int)).toNat = T.length + 1 + D.length := by omega
  simp only [subS,Wd,ByteArray.data_extract,q1,q2]
  apply Array.ext'
  simp
 rw [e1,e2]
theorem zq1100 {p : Pf} (hp : p.In) (hc : chkP p = 0) : ∃ T : List UInt8,zq1093 p = some (Wd T,()) ∧ zq1087 (Wd T) = some (p,0,()) ∧ T.length ≤ 50 ∧ (32 : UInt8) ∉ T := by
 obtain ⟨T,t1,t2,t3,t4,t5⟩ := zq1547 hp.1.wf (zq273 hc)
 obtain ⟨b0,b1⟩ := zq274 hc
 have hw := zq1628 p.ad.v6
 obtain ⟨n,hn⟩ : ∃ n : Nat,p.bits = (n : Int) := ⟨p.bits.toNat,by omega⟩
 have hn2 : n < 10000 := by omega
 have d2 := zq332 3 n hn2
 obtain ⟨g1,g2⟩ := zq351 hn2
 refine ⟨T ++ 47 :: Lib.decDigits n,?_,?_,?_,?_⟩
 ·unfold zq1093
  rw [t1,zq220,hn]
  have ec : catS (Wd T) (⟨#[47]⟩ : ByteArray) = Wd (T ++ [47]) := zq256 T [47]
  simp only [ec]
  rw [zq1187 (show roomS (Wd (T ++ [47])) = true from zq1200 (T ++ [47]) (by simp; omega)),zq579 (by omega),zq220]
  simp only [Wd,zq256]
  rw [zq1187 (zq1200 _ (by simp; omega)),zc48]
  rfl
 ·unfold zq1087
  rw [zq303 t4 (by omega),zq220]
  simp only
  rw [t2,zq220,zq356 (by rw [zq1626]; omega),zq220,g1,g2]
  have e : (⟨p.ad,(n : Int)⟩ : Pf) = p := by rw [← hn]
  simp only [decide_true,zc10,zq233,zq220,e,zq1040 hp,hc]
 ·simp
  omega
 ·intro h
  rcases zc36.1 h with h | h
  ·exact t5 h
  ·rcases zc28.1 h with h | h
   ·exact absurd h (by decide)
   ·exact zq334 n 32 (by decide) h
end Go.Ma
namespace Go.Ma
open Go
structure Bk where
 v : Bool
 f : Nat
 k : Nat
 deriving DecidableEq
def Bk.lo (b : Bk) : Nat := b.k * 2 ^ b.f
def Bk.hi (b : Bk) : Nat := (b.k + 1) * 2 ^ b.f
def Bk.has (b : Bk) (v : Bool) (n : Nat) : Prop := b.v = v ∧ b.lo ≤ n ∧ n < b.hi
def covB (l : List Bk) (v : Bool) (n : Nat) : Prop := ∃ b ∈ l,b.has v n
def sib (a b : Bk) : Prop := a.v = b.v ∧ a.f = b.f ∧ a.k % 2 = 0 ∧ b.k = a.k + 1
def befB (a b : Bk) : Prop := (a.v = false ∧ b.v = true) ∨ (a.v = b.v ∧ a.hi ≤ b.lo)
structure NormB (l : List Bk) : Prop where
 asc : l.Pairwise befB
 nos : ∀ a ∈ l,∀ b ∈ l,¬ sib a b
end Go.Ma
namespace Go.Ma
open Go
instance (a b : Bk) : Decidable (sib a b) := by unfold sib; exact inferInstance
structure StkB (rs : List Bk) : Prop where
 asc : rs.Pairwise fun a b => befB b a
 nos : ∀ a ∈ rs,∀ b ∈ rs,¬ sib a b
structure ShB (done rs : List Bk) : Prop where
 stk : StkB rs
 cov : ∀ v n,covB rs v n ↔ covB done v n
 low : ∀ t ∈ rs,∃ q ∈ done,q.v = t.v ∧ q.lo = t.lo ∧ q.f ≤ t.f
end Go.Ma
namespace Go.Ma
open Go
end Go.Ma
namespace Go.Ma
open Go
theorem zq1630 (v : Bool) : wid v ≤ 128 := by cases v <;> decide
end Go.Ma
namespace Go.Ma
open Go
end Go.Ma
namespace Go.Ma
open Go
end Go.Ma
namespace Go.Ma
open Go
def numR (l : List UInt8) : Option Nat := if 1 ≤ l.length ∧ l.length ≤ 4 then Lib.decFrom 0 l else none
theorem zq316 : ∀ (l : List UInt8) (a n : Nat),Lib.decFrom a l = some n → n < (a + 1) * 10 ^ l.length
 | [],a,n,h => by
  simp only [Lib.decFrom,zc2] at h
  subst h
  simp
 | c :: r,a,n,h => by
  rw [Lib.decFrom] at h
  cases hc : Lib.digitVal c with
  | none => rw [hc] at h; cases h
  | some d =>
   rw [hc] at h
   have h1 := zq316 r _ n h
   have hd := (zq352 hc).1
   have : (a * 10 + d + 1) * 10 ^ r.length ≤ (a + 1) * 10 ^ (c :: r).length := by
    rw [zc21,Nat.pow_succ,Nat.mul_comm (10 ^ r.length) 10,← Nat.mul_assoc]
    exact Nat.mul_le_mul_right _ (by omega)
   omega
theorem zq863 {l : List UInt8} {n : Nat} (h : numR l = some n) : n < 10000 := by
 unfold numR at h
 split at h
 ·rename_i hl
  have h1 := zq316 l 0 n h
  have : 10 ^ l.length ≤ 10 ^ 4 := Nat.pow_le_pow_right (by omega) hl.2
  omega
 ·cases h
def numA (l : List UInt8) : Int × Bool × Unit := match numR l with | some n => ((n : Int),decide (Lib.decDigits n = l),()) | none => (0,false,())
theorem zq207 {l : List UInt8} {n : Nat} (h1 : 1 ≤ l.length) (h4 : l.length ≤ 4) (h : Lib.decFrom 0 l = some n) : Lib.atoiAll l = .ok (n : Int) := by
 rw [Lib.atoiAll_short _ (by omega)]
 have : Lib.atoi l = some (n : Int) := by
  cases l with
  | nil => simp at h1
  | cons b r =>
   have hb : 48 ≤ b.toNat := by
    rw [Lib.decFrom] at h
    cases hd : Lib.digitVal b with
    | none => rw [hd] at h; cases h
    | some d =>
     have := (zq352 hd).2.2
     omega
   have e1 : (b == 45) = false := beq_eq_false_iff_ne.2 fun e => by subst e; simp at hb
   have e2 : (b == 43) = false := beq_eq_false_iff_ne.2 fun e => by subst e; simp at hb
   simp only [Lib.atoi,e1,e2,zc16,if_false,Lib.decNat,List.isEmpty_cons,h,Option.map_some]
 rw [this]
 rfl
theorem zq770 (s : ByteArray) (l : List UInt8) : ((⟨l.toArray⟩ : ByteArray) == s) = decide (l = s.data.toList) := by
 rw [Go.beq_toListBytes,Bool.eq_iff_iff,beq_iff_eq,decide_eq_true_iff]
 have e1 : (⟨l.toArray⟩ : ByteArray).toList = l := by rw [zq1567]
 rw [e1,zq1567]
theorem zq357 (s : ByteArray) : digB s = (numA s.data.toList).2.1 ∧ (digB s = true → digN s = (numA s.data.toList).1) := by
 have hl : s.data.toList.length = s.size := zq309 s
 unfold numA numR digB digN
 rw [hl]
 by_cases h : 1 ≤ s.size ∧ s.size ≤ 4
 ·rw [if_pos h]
  cases hF : Lib.decFrom 0 s.data.toList with
  | some n =>
   rw [zq207 (by omega) (by omega) hF]
   simp only [zq770,zc42]
   rw [decide_eq_true (show (0 : Int) ≤ (n : Int) by omega),decide_eq_true h.2]
   exact ⟨by simp,fun _ => by first | rfl | trivial⟩
  | none =>
   have key : ∀ v : Int,Lib.atoiAll s.data.toList = .ok v → ((decide (0 ≤ v) && (decide (s.size ≤ 4) && ((⟨(Lib.decDigits v.toNat).toArray⟩ : ByteArray) == s))) = false) := fun v _ => by
    rw [Bool.eq_false_iff]
    intro hh
    simp only [zq770,zc4,decide_eq_true_iff] at hh
    have := zq315 v.toNat
    rw [hh.2.2,hF] at this
    cases this
   cases ha : Lib.atoiAll s.data.toList with
   | ok v =>
    have := key v ha
    simp only [this]
    exact ⟨trivial,fun h => (by cases h)⟩
   | _ => exact ⟨by first | rfl | trivial,fun h => (by cases h)⟩
 ·rw [if_neg h]
  cases ha : Lib.atoiAll s.data.toList with
  | ok v =>
   have : (decide (0 ≤ v) && (decide (s.size ≤ 4) && ((⟨(Lib.decDigits v.toNat).toArray⟩ : ByteArray) == s))) = false := by
    rw [Bool.eq_false_iff]
    intro hh
    simp only [zq770,zc4,decide_eq_true_iff] at hh
    obtain ⟨b,r,hb⟩ := zq333 v.toNat
    rw [hh.2.2] at hb
    have : 1 ≤ s.size := by rw [← hl,hb]; simp
    omega
   simp only [this]
   exact ⟨trivial,fun h => (by cases h)⟩
  | _ => exact ⟨by first | rfl | trivial,fun h => (by cases h)⟩
def textP (p : Pf) : List UInt8 := textA p.ad ++ 47 :: Lib.decDigits p.bits.toNat
theorem zq1518 {a : Ad} (h : a.wf) (hc : chkA a = 0) : (textA a).length ≤ 39 := by
 obtain ⟨T,t1,_,t3⟩ := zq1546 h hc
 have := zq19 h
 rw [t1] at this
 have e : zq871 T = zq871 (textA a) := by
  injection this with this
  injection this
 rw [← zq873 e]
 exact t3
theorem zq1088 {p : Pf} (hp : p.In) (hc : chkP p = 0) : zq1093 p = some (zq871 (textP p),()) := by
 obtain ⟨b0,b1⟩ := zq274 hc
 have hw := zq1630 p.ad.v6
 obtain ⟨n,hn⟩ : ∃ n : Nat,p.bits = (n : Int) := ⟨p.bits.toNat,by omega⟩
 have hl := zq1518 hp.1.wf (zq273 hc)
 have hd := zq332 3 n (by omega)
 unfold zq1093 textP
 rw [zq19 hp.1.wf,zq220,hn]
 have ec : catS (zq871 (textA p.ad)) (⟨#[47]⟩ : ByteArray) = zq871 (textA p.ad ++ [47]) := catB _ [47]
 simp only [ec]
 rw [zq1187 (roomB _ (by simp; omega)),zq579 (by omega),zq220]
 simp only [show Wd (Lib.decDigits n) = zq871 (Lib.decDigits n) from rfl,catB,zc42]
 rw [zq1187 (roomB _ (by simp; omega)),zc48]
 rfl
def pz : Pf := ⟨⟨false,0,0⟩,0⟩
def pfx2 (x y : List UInt8) : Pf × Int × Unit := match toldF (zq871 x),numA y with
 | some a,(n,true,_) => if chkP ⟨a,n⟩ = 0 then (⟨a,n⟩,0,()) else (pz,chkP ⟨a,n⟩,())
 | _,_ => (pz,1,())
def pfxA (l : List UInt8) : Pf × Int × Unit := match splL 47 [] l with
 | [x,y] => pfx2 x y
 | _ => (pz,1,())
theorem zq860 (l : List UInt8) : i64In (numA l).1 := by
 unfold numA
 cases h : numR l with
 | none => exact ⟨by show (-9223372036854775808 : Int) ≤ 0; omega,by show (0 : Int) < 9223372036854775808; omega⟩
 | some n =>
  have := zq863 h
  exact ⟨by show -9223372036854775808 ≤ (n : Int); omega,by show (n : Int) < 9223372036854775808; omega⟩
theorem zq1576 {s : ByteArray} {a : Ad} (h : toldF s = some a) : a.In := by
 obtain ⟨h1,h2,h3,h4⟩ := (zq1569 h).1
 exact ⟨⟨h1,h2⟩,h3,h4⟩
theorem zq412 : ∀ {l : List UInt8},(47 : UInt8) ∈ l → ∃ x y,l = x ++ 47 :: y ∧ (47 : UInt8) ∉ x
 | [],h => by simp at h
 | c :: r,h => by
  by_cases hc : c = 47
  ·subst hc
   exact ⟨[],r,rfl,by simp⟩
  ·have : (47 : UInt8) ∈ r := by
    rcases zc28.1 h with h | h
    ·exact absurd h.symm hc
    ·exact h
   obtain ⟨x,y,rfl,hx⟩ := zq412 this
   refine ⟨c :: x,y,rfl,?_⟩
   intro hm
   rcases zc28.1 hm with hm | hm
   ·exact hc hm.symm
   ·exact hx hm
theorem zq1322 (c : UInt8) : ∀ (x w y : List UInt8),c ∉ x → splL c w (x ++ c :: y) = (w ++ x) :: splL c [] y
 | [],w,y,_ => by rw [zc44,zq1324,List.append_nil]
 | a :: x,w,y,h => by
  have h1 : a ≠ c := fun e => h (by simp [e])
  rw [List.cons_append,zq1326 h1,zq1322 c x _ y (fun e => h (by simp [e])),zc48]
  rfl
theorem zq305 {s : ByteArray} (h : (47 : UInt8) ∉ s.data.toList) : zq1490 s (⟨#[47]⟩ : ByteArray) = some (s,ByteArray.empty,false,()) := by
 have hi : zq573 s (⟨#[47]⟩ : ByteArray) = some (Lib.indexByte s.data.toList 47,()) := rfl
 unfold zq1490 zq570
 rw [hi,zq220,zq243 _ 47 h]
 rfl
theorem num47 {y : List UInt8} (h : (47 : UInt8) ∈ y) : (numA y).2.1 = false := by
 unfold numA
 cases hn : numR y with
 | none => rfl
 | some n =>
  simp only
  rw [decide_eq_false_iff_not]
  intro e
  rw [← e] at h
  exact zq334 n 47 (by decide) h
theorem zq1082 (s : ByteArray) (hs : s.size ≤ 1048576) : zq1087 s = some (pfxA s.data.toList) := by
 unfold zq1087
 by_cases hm : (47 : UInt8) ∈ s.data.toList
 ·obtain ⟨x,y,e,hx⟩ := zq412 hm
  have hsz : x.length + 1 + y.length = s.size := by
   rw [← zq309 s,e]
   simp
   omega
  have hc := zq303 (D := y) hx (by omega)
  have es : Wd (x ++ 47 :: y) = s := by rw [← e]; exact zq872 s
  rw [es] at hc
  rw [hc,zq220]
  simp only
  have sx : (Wd x).size ≤ 4294967200 := by rw [zq1626]; omega
  have sy : (Wd y).size ≤ 1073741824 := by rw [zq1626]; omega
  rw [zq111 sx,zq220,zq356 sy,zq220]
  obtain ⟨d1,d2⟩ := zq357 (Wd y)
  rw [zq1625] at d1 d2
  have hP : pfxA s.data.toList = pfx2 x y := by
   unfold pfxA
   rw [e,zq1322 47 x [] y hx,zc44]
   by_cases hy : (47 : UInt8) ∈ y
   ·have h1 := num47 hy
    have h2 : pfx2 x y = (pz,1,()) := by
     unfold pfx2
     rcases hq : numA y with ⟨n,b,u⟩
     rw [hq] at h1
     simp only at h1
     subst h1
     cases toldF (zq871 x) <;> rfl
    rw [h2]
    obtain ⟨x2,y2,e2,hx2⟩ := zq412 hy
    rw [e2,zq1322 47 x2 [] y2 hx2]
    cases hs2 : splL 47 [] y2 with
    | nil => exact absurd hs2 (zq1327 _ _ _)
    | cons a r => rfl
   ·rw [zq1329 hy]
    rfl
  rw [hP,d1]
  unfold zq994 pfx2
  rw [show Wd x = zq871 x from rfl]
  cases ht : toldF (zq871 x) with
  | none =>
   simp only [zc10,zq233,zq220]
   rfl
  | some a =>
   have hn := zq860 y
   rcases hq : numA y with ⟨n,b,u⟩
   rw [hq] at hn d1 d2
   simp only [decide_true,zc10,zq233,zq220]
   cases b
   ·simp only [zc19,zq235]
    rfl
   ·have hp : (⟨a,n⟩ : Pf).In := ⟨zq1576 ht,hn.1,hn.2⟩
    rw [d2 d1]
    simp only [zc10,zq233,zq1040 hp,zq220]
    by_cases h0 : chkP ⟨a,n⟩ = 0
    ·rw [if_pos h0,h0]
     rfl
    ·rw [if_neg h0,decide_eq_false h0]
     rfl
 ·rw [zq305 hm,zq220]
  simp only
  rw [zq111 (by omega),zq220,zq356 (by decide),zq220]
  have hP : pfxA s.data.toList = (pz,1,()) := by
   unfold pfxA
   rw [zq1329 hm]
  rw [hP]
  first | done | rfl
end Go.Ma
namespace Go.Ma
open Go
theorem zq396 (a b : Oq) : eqOq a b = decide (a = b) := by
 have e : (a = b) ↔ (a.kind = b.kind ∧ (a.pf.ad.v6 = b.pf.ad.v6 ∧ (a.pf.ad.hi = b.pf.ad.hi ∧ (a.pf.ad.lo = b.pf.ad.lo ∧ (a.pf.bits = b.pf.bits ∧ (a.ad.v6 = b.ad.v6 ∧ (a.ad.hi = b.ad.hi ∧ (a.ad.lo = b.ad.lo ∧ (a.who = b.who ∧ (a.of_ = b.of_ ∧ a.n = b.n)))))))))) := by
  cases a with | mk k p d w o n => cases b with | mk k' p' d' w' o' n' =>
  cases p with | mk pa pb => cases p' with | mk pa' pb' =>
  cases pa; cases pa'; cases d; cases d'
  simp only [Oq.mk.injEq,Pf.mk.injEq,Ad.mk.injEq,and_assoc]
 rw [Bool.eq_iff_iff,decide_eq_true_iff,e]
 unfold eqOq
 simp only [zc4,zq1478,decide_eq_true_iff]
 simp [beqB,acmp]
def az : Ad := ⟨false,0,0⟩
inductive FormO : Oq → Prop
 | pool {p : Pf} (h : chkP p = 0) : FormO ⟨1,p,az,ByteArray.empty,0,0⟩
 | keep {a : Ad} (h : chkA a = 0) : FormO ⟨2,pz,a,ByteArray.empty,0,0⟩
 | grant {w : ByteArray} {o n : Nat} (h : whoOk w = true) (ho : o ≤ 2) (hn : n ≤ 500) : FormO ⟨3,pz,az,w,(o : Int),(n : Int)⟩
 | free {w : ByteArray} (h : whoOk w = true) : FormO ⟨4,pz,az,w,0,0⟩
 | tick {n : Nat} (hn : n ≤ 9999) : FormO ⟨5,pz,az,ByteArray.empty,0,(n : Int)⟩
theorem zq449 {o : Oq} (h : formO o = 0) : FormO o := by
 obtain ⟨k,p,a,w,of_,n⟩ := o
 unfold formO at h
 simp only at h
 split at h
 ·cases h
 rename_i hk
 have hk : betw k 1 5 = true := by cases hb : betw k 1 5 <;> simp_all
 obtain ⟨k1,k2⟩ := zq218.1 hk
 split at h
 ·cases h
 rename_i hx
 have hx : zq400 ⟨k,p,a,w,of_,n⟩ = false := by simpa using hx
 unfold zq400 at hx
 simp only [zq397,zq390,zq1479] at hx
 have hk5 : k = 1 ∨ k = 2 ∨ k = 3 ∨ k = 4 ∨ k = 5 := by omega
 rcases hk5 with rfl | rfl | rfl | rfl | rfl
 ·simp at hx
  obtain ⟨⟨⟨h1,h2⟩,h3⟩,h4⟩ := hx
  subst h1; subst h2; subst h3; subst h4
  rw [if_pos rfl] at h
  split at h
  ·rename_i hc
   exact absurd h hc
  ·rename_i hc
   exact .pool (zc51.1 hc)
 ·simp at hx
  obtain ⟨⟨⟨h1,h2⟩,h3⟩,h4⟩ := hx
  subst h1; subst h2; subst h3; subst h4
  rw [if_neg (by decide),if_pos rfl] at h
  exact .keep h
 ·simp at hx
  obtain ⟨h1,h2⟩ := hx
  subst h1; subst h2
  rw [if_neg (by decide),if_neg (by decide)] at h
  split at h
  ·cases h
  rename_i hw
  split at h
  ·cases h
  rename_i hb
  simp only [true_and,not_or,Bool.not_eq_false] at hb hw
  simp only [show (3 : Int) < 5 from by decide,true_and,Bool.not_eq_false] at hw
  obtain ⟨o1,o2⟩ := zq218.1 hb.1
  obtain ⟨n1,n2⟩ := zq218.1 hb.2
  obtain ⟨x,rfl⟩ := Int.eq_ofNat_of_zero_le o1
  obtain ⟨y,rfl⟩ := Int.eq_ofNat_of_zero_le (show 0 ≤ n by omega)
  exact .grant hw (by omega) (by omega)
 ·simp at hx
  obtain ⟨⟨⟨h1,h2⟩,h3⟩,h4⟩ := hx
  subst h1; subst h2; subst h3; subst h4
  rw [if_neg (by decide),if_neg (by decide)] at h
  split at h
  ·cases h
  rename_i hw
  simp only [show (4 : Int) < 5 from by decide,true_and,Bool.not_eq_false] at hw
  exact .free hw
 ·simp at hx
  obtain ⟨⟨⟨h1,h2⟩,h3⟩,h4⟩ := hx
  subst h1; subst h2; subst h3; subst h4
  rw [if_neg (by decide),if_neg (by decide),if_neg (by simp),if_neg (by simp)] at h
  split at h
  ·cases h
  rename_i hb
  simp only [true_and,Bool.not_eq_false] at hb
  obtain ⟨n1,n2⟩ := zq218.1 hb
  obtain ⟨y,rfl⟩ := Int.eq_ofNat_of_zero_le n1
  exact .tick (by omega)
theorem zq1627 {w : ByteArray} (h : whoOk w = true) : w.size ≤ 8 ∧ (32 : UInt8) ∉ w.data.toList := by
 unfold whoOk at h
 rw [zc4] at h
 obtain ⟨h1,h2⟩ := h
 obtain ⟨_,q⟩ := zq218.1 h2
 refine ⟨by unfold lenS at q; omega,fun hm => ?_⟩
 have := zc17.1 h1 32 hm
 exact absurd this (by decide)
def wK (k : Nat) : List UInt8 := (zq1631 k).data.toList
def zq406 (o : Oq) : List (List UInt8) :=
 if o.kind = 1 then [wK 1,textP o.pf] else if o.kind = 2 then [wK 2,textA o.ad] else if o.kind = 3 then [wK 3,o.who.data.toList,Lib.decDigits o.of_.toNat,Lib.decDigits o.n.toNat]
 else if o.kind = 4 then [wK 4,o.who.data.toList] else [wK 5,Lib.decDigits o.n.toNat]
theorem zq401 (p : Pf) : zq406 ⟨1,p,az,ByteArray.empty,0,0⟩ = [wK 1,textP p] := by simp [zq406]
theorem zq402 (a : Ad) : zq406 ⟨2,pz,a,ByteArray.empty,0,0⟩ = [wK 2,textA a] := by simp [zq406]
theorem zq403 (w : ByteArray) (o n : Nat) : zq406 ⟨3,pz,az,w,(o : Int),(n : Int)⟩ = [wK 3,w.data.toList,Lib.decDigits o,Lib.decDigits n] := by simp [zq406]
theorem zq404 (w : ByteArray) : zq406 ⟨4,pz,az,w,0,0⟩ = [wK 4,w.data.toList] := by simp [zq406]
theorem zq405 (n : Nat) : zq406 ⟨5,pz,az,ByteArray.empty,0,(n : Int)⟩ = [wK 5,Lib.decDigits n] := by simp [zq406]
def lineO (o : Oq) : List UInt8 := Lib.join (zq406 o) [32]
theorem join2 (x y : List UInt8) : Lib.join [x,y] [32] = x ++ 32 :: y := by rw [zq587,Lib.join_one]
theorem zq1519 {a : Ad} (h : a.wf) (hc : chkA a = 0) : (textA a).length ≤ 39 ∧ (32 : UInt8) ∉ textA a ∧ toldF (zq871 (textA a)) = some a := by
 obtain ⟨T,t1,t2,t3,_,t5⟩ := zq1547 h hc
 have e := zq19 h
 rw [t1] at e
 have e : zq871 T = zq871 (textA a) := by
  injection e with e
  injection e
 have e := zq873 e
 subst e
 refine ⟨t3,t5,?_⟩
 obtain ⟨T2,q1,q2,_⟩ := zq1546 h hc
 rw [q1] at t1
 have e2 : zq871 T2 = zq871 (textA a) := by
  injection t1 with t1
  injection t1
 rw [zq873 e2] at q2
 exact q2
theorem zq1524 {p : Pf} (hp : p.In) (hc : chkP p = 0) : (textP p).length ≤ 50 ∧ (32 : UInt8) ∉ textP p ∧ pfxA (textP p) = (p,0,()) := by
 obtain ⟨T,t1,t2,t3,t4⟩ := zq1100 hp hc
 have e := zq1088 hp hc
 rw [t1] at e
 have e : zq871 T = zq871 (textP p) := by
  injection e with e
  injection e
 have e := zq873 e
 subst e
 refine ⟨t3,t4,?_⟩
 have := zq1082 (Wd (textP p)) (by rw [zq1626]; omega)
 rw [t2,zq1625] at this
 injection this with this
 exact this.symm
theorem zq1525 {o : Oq} (hi : o.In) (hf : FormO o) : zq1530 o = some (zq871 (lineO o),()) := by
 have r2 : ∀ (a b : ByteArray),room (lenL ([a] : List ByteArray)) (lenL ([b] : List ByteArray)) = true := fun a b => zq1201 (zq765 _) (zq765 _) (by unfold lenL; simp)
 have r3 : ∀ (a b c d : ByteArray),room (lenL ([a] : List ByteArray)) (lenL ([b,c,d] : List ByteArray)) = true := fun a b c d => zq1201 (zq765 _) (zq765 _) (by unfold lenL; simp)
 have wl : ∀ k,(wK k).length ≤ 5 := fun k => by
  unfold wK zq1631
  match k with
  | 0 => decide
  | 1 => decide
  | 2 => decide
  | 3 => decide
  | 4 => decide
  | 5 => decide
  | k + 6 => simp [zq1634]
 have two : ∀ (k : Nat) (x : List UInt8),x.length ≤ 1000 → zq1493 ([zq1631 k] ++ [zq871 x]) (⟨#[32]⟩ : ByteArray) = some (zq871 (Lib.join [wK k,x] [32]),()) := fun k x hx => by
  have e : (([zq1631 k] ++ [zq871 x] : List ByteArray).map fun s => s.data.toList) = [wK k,x] := by simp [wK,zq871]
  have hl := wl k
  have := zq8 (l := [zq1631 k] ++ [zq871 x]) (c := 32) (by simp) (by rw [e,join2]; simp; omega)
  rw [e] at this
  exact this
 unfold zq1530 lineO zq406
 cases hf with
 | @pool p h =>
  have hpi : p.In := hi.2.1
  obtain ⟨h1,_,_⟩ := zq1524 hpi h
  simp only
  rw [zq1187 (by decide),zq1187 (by decide),show decide True = true from rfl,zq235,zq1088 hi.2.1 h,zq220,if_pos trivial]
  simp only
  rw [zq1187 (r2 _ _),show ((1 : Int).toNat) = 1 from rfl,two 1 _ (by omega),zq220]
 | @keep a h =>
  have hai : a.In := hi.2.2.1
  obtain ⟨h1,_,_⟩ := zq1519 hai.wf h
  simp only
  rw [zq1187 (by decide),zq1187 (by decide),decide_eq_false (by decide),zq233,show decide True = true from rfl,zq235,zq19 hi.2.2.1.wf,zq220,if_neg (by decide),if_pos trivial]
  simp only
  rw [zq1187 (r2 _ _),show ((2 : Int).toNat) = 2 from rfl,two 2 _ (by omega),zq220]
 | @grant w o n h ho hn =>
  obtain ⟨h1,_⟩ := zq1627 h
  have d1 := zq332 3 o (by omega)
  have d2 := zq332 3 n (by omega)
  have hl := wl 3
  simp only
  rw [zq1187 (by decide),zq1187 (by decide),decide_eq_false (by decide),zq233,decide_eq_false (by decide),zq233,show decide True = true from rfl,zq235,zq579 (by omega),zq220,zq579 (by omega),zq220]
  rw [if_neg (by decide),if_neg (by decide),if_pos trivial]
  simp only
  rw [zq1187 (r3 _ _ _ _),show ((3 : Int).toNat) = 3 from rfl,zc42,zc42]
  have e : (([zq1631 3] ++ [w,Wd (Lib.decDigits o),Wd (Lib.decDigits n)] : List ByteArray).map fun s => s.data.toList) = [wK 3,w.data.toList,Lib.decDigits o,Lib.decDigits n] := by simp [wK,Wd]
  have := zq8 (l := [zq1631 3] ++ [w,Wd (Lib.decDigits o),Wd (Lib.decDigits n)]) (c := 32) (by simp) (by rw [e,zq587,zq587,zq587,Lib.join_one]; simp; omega)
  rw [e] at this
  rw [this,zq220]
  rfl
 | @free w h =>
  obtain ⟨h1,_⟩ := zq1627 h
  simp only
  rw [zq1187 (by decide),zq1187 (by decide),decide_eq_false (by decide),zq233,decide_eq_false (by decide),zq233,decide_eq_false (by decide),zq233,show decide True = true from rfl,zq235]
  rw [if_neg (by decide),if_neg (by decide),if_neg (by decide),if_pos trivial,zq1187 (r2 _ _),show ((4 : Int).toNat) = 4 from rfl]
  have := two 4 w.data.toList (by rw [zq309]; omega)
  rw [zq872] at this
  rw [this,zq220]
 | @tick n hn =>
  have d2 := zq332 3 n (by omega)
  simp only
  rw [zq1187 (by decide),zq1187 (by decide),decide_eq_false (by decide),zq233,decide_eq_false (by decide),zq233,decide_eq_false (by decide),zq233,decide_eq_false (by decide),zq233,show decide True = true from rfl,zq235,zq579 (by omega),zq220]
  rw [if_neg (by decide),if_neg (by decide),if_neg (by decide),if_neg (by decide),zc42]
  simp only
  rw [zq1187 (r2 _ _),show ((5 : Int).toNat) = 5 from rfl]
  have := two 5 (Lib.decDigits n) (by omega)
  rw [show zq871 (Lib.decDigits n) = Wd (Lib.decDigits n) from rfl] at this
  rw [this,zq220]
theorem zq1540 {o : Oq} (hi : o.In) : zq1545 o = some (if formO o = 0 then zq871 (lineO o) else ByteArray.empty,formO o,()) := by
 unfold zq1545
 rw [zq1378 hi,zq220]
 by_cases hf : formO o = 0
 ·rw [if_pos hf,decide_eq_true (show (formO o,()).1 = 0 from hf),zc10,zq233,zq1525 hi (zq449 hf),zq220,hf]
 ·rw [if_neg hf,decide_eq_false (show ¬ (formO o,()).1 = 0 from hf),zc19,zq235]
theorem zq769 {o : Oq} (hi : o.In) (hf : FormO o) : splL 32 [] (lineO o) = zq406 o := by
 have key : ∀ xs : List (List UInt8),xs ≠ [] → (∀ x ∈ xs,(32 : UInt8) ∉ x) → splL 32 [] (Lib.join xs [32]) = xs := fun xs h0 h => by
  have h1 := zq1339 32 h0 h
  have h2 := zq1337 32 (Lib.join xs [32])
  rw [h2] at h1
  have h3 : (splL 32 [] (Lib.join xs [32])).map zq871 = xs.map zq871 := h1
  have := congrArg (List.map fun s : ByteArray => s.data.toList) h3
  rw [List.map_map,List.map_map] at this
  have e : ((fun s : ByteArray => s.data.toList) ∘ zq871) = id := by funext x; simp [zq871]
  rw [e,List.map_id,List.map_id] at this
  exact this
 have hw : ∀ k,(32 : UInt8) ∉ wK k := fun k => by
  unfold wK zq1631
  match k with
  | 0 => decide
  | 1 => decide
  | 2 => decide
  | 3 => decide
  | 4 => decide
  | 5 => decide
  | k + 6 => simp [zq1634]
 have hd : ∀ n,(32 : UInt8) ∉ Lib.decDigits n := fun n => zq334 n 32 (by decide)
 unfold lineO
 refine key _ ?_ ?_
 ·unfold zq406
  repeat' split
  all_goals simp
 ·cases hf with
  | @pool p h =>
   have hpi : p.In := hi.2.1
   have := (zq1524 hpi h).2.1
   intro x hx
   rw [zq401] at hx
   simp only [zc28,zc38,or_false] at hx
   rcases hx with rfl | rfl
   ·exact hw 1
   ·exact this
  | @keep a h =>
   have hai : a.In := hi.2.2.1
   have := (zq1519 hai.wf h).2.1
   intro x hx
   rw [zq402] at hx
   simp only [zc28,zc38,or_false] at hx
   rcases hx with rfl | rfl
   ·exact hw 2
   ·exact this
  | @grant w o n h ho hn =>
   have := (zq1627 h).2
   intro x hx
   rw [zq403] at hx
   simp only [zc28,zc38,or_false] at hx
   rcases hx with rfl | rfl | rfl | rfl
   ·exact hw 3
   ·exact this
   ·exact hd _
   ·exact hd _
  | @free w h =>
   have := (zq1627 h).2
   intro x hx
   rw [zq404] at hx
   simp only [zc28,zc38,or_false] at hx
   rcases hx with rfl | rfl
   ·exact hw 4
   ·exact this
  | @tick n hn =>
   intro x hx
   rw [zq405] at hx
   simp only [zc28,zc38,or_false] at hx
   rcases hx with rfl | rfl
   ·exact hw 5
   ·exact hd _
end Go.Ma
namespace Go.Ma
open Go
def tk (w : List UInt8) : Nat := if w = wK 1 then 1 else if w = wK 2 then 2 else if w = wK 3 then 3 else if w = wK 4 then 4 else if w = wK 5 then 5 else 0
def oz : Oq := ⟨0,pz,az,ByteArray.empty,0,0⟩
theorem zq1632 (k : Nat) (h : k < 6) : strAt [(⟨#[]⟩ : ByteArray),(⟨#[112,111,111,108]⟩ : ByteArray),(⟨#[107,101,101,112]⟩ : ByteArray),(⟨#[103,114,97,110,116]⟩ : ByteArray),(⟨#[102,114,101,101]⟩ : ByteArray),(⟨#[116,105,99,107]⟩ : ByteArray)] (k : Int) = zq871 (wK k) := by
 have : ∀ k : Fin 6,strAt [(⟨#[]⟩ : ByteArray),(⟨#[112,111,111,108]⟩ : ByteArray),(⟨#[107,101,101,112]⟩ : ByteArray),(⟨#[103,114,97,110,116]⟩ : ByteArray),(⟨#[102,114,101,101]⟩ : ByteArray),(⟨#[116,105,99,107]⟩ : ByteArray)] ((k.val : Nat) : Int) = zq871 (wK k) := by decide
 exact this ⟨k,h⟩
def lastK (w : List UInt8) : Nat → Nat → Nat
 | 0,k => k
 | n + 1,k => lastK w n (if 6 - (n + 1) > 0 ∧ wK (6 - (n + 1)) = w then 6 - (n + 1) else k)
theorem zq612 (w : List UInt8) : lastK w 6 0 = tk w := by
 have e : ∀ k,wK k = w ↔ w = wK k := fun k => ⟨fun h => h.symm,fun h => h.symm⟩
 unfold tk
 simp only [lastK,e]
 by_cases h1 : w = wK 1
 ·subst h1; decide
 by_cases h2 : w = wK 2
 ·subst h2; decide
 by_cases h3 : w = wK 3
 ·subst h3; decide
 by_cases h4 : w = wK 4
 ·subst h4; decide
 by_cases h5 : w = wK 5
 ·subst h5; decide
 ·simp [h1,h2,h3,h4,h5]
theorem zq1577 (w : List UInt8) (l : List ByteArray) (z : Oq) : ∀ (n N k : Nat),n ≤ 6 → n < N →
  loopN zq1554 N (((),(),(),((⟨#[]⟩ : ByteArray),(⟨#[112,111,111,108]⟩ : ByteArray),(⟨#[107,101,101,112]⟩ : ByteArray),(⟨#[103,114,97,110,116]⟩ : ByteArray),(⟨#[102,114,101,101]⟩ : ByteArray),(⟨#[116,105,99,107]⟩ : ByteArray),()),(((6 - n : Nat) : Int),()),()),(zq871 w :: l,(),(z,()),((⟨(k : Int),pz,az,ByteArray.empty,0,0⟩ : Oq),()),())) =
   some (((),(),(),()),(zq871 w :: l,(),(z,()),((⟨(lastK w n k : Nat),pz,az,ByteArray.empty,0,0⟩ : Oq),()),()))
 | 0,N,k,_,hN => by
  obtain ⟨M,rfl⟩ : ∃ M,N = M + 1 := ⟨N - 1,by omega⟩
  rw [zq789]
  simp only [zq1554]
  rw [decide_eq_false (by decide),zq233]
  rfl
 | n + 1,N,k,hn,hN => by
  obtain ⟨M,rfl⟩ : ∃ M,N = M + 1 := ⟨N - 1,by omega⟩
  rw [zq789]
  obtain ⟨i,hi⟩ : ∃ i,i = 6 - (n + 1) := ⟨_,rfl⟩
  have hn1 : 6 - n = i + 1 := by omega
  have hlL : lenL (zq871 w :: l) = lenL l + 1 := zq764 _ _
  have hl0 := zq765 l
  simp only [zq1554]
  rw [← hi]
  rw [decide_eq_true (show (i : Int) < 6 by omega),zq235,zq1187 (zq525 (by omega) (by omega)),zq1632 i (by omega),hlL]
  have g0 : geti (zq871 w :: l) 0 = some (zq871 w) := rfl
  rw [g0,zq220,zq1478]
  have ew : decide (zq871 (wK i) = zq871 w) = decide (wK i = w) := decide_eq_decide.2 ⟨zq873,fun h => by rw [h]⟩
  have hrec := fun k => zq1577 w l z n M k (by omega) (by omega)
  rw [hn1] at hrec
  rw [lastK,← hi,show (i : Int) + 1 = ((i + 1 : Nat) : Int) by omega]
  by_cases h0 : i > 0
  ·rw [decide_eq_true (show (i : Int) > 0 by omega),zq235,zq1187 (zq525 (by omega) (by omega)),ew,zq220]
   by_cases hw : wK i = w
   ·rw [decide_eq_true hw,zq235,zq1187 (zq519 (by omega) (by omega)),if_pos ⟨h0,hw⟩]
    exact hrec i
   ·rw [decide_eq_false hw,zq233,zq1187 (zq519 (by omega) (by omega)),if_neg (fun h => hw h.2)]
    exact hrec k
  ·rw [decide_eq_false (show ¬ (i : Int) > 0 by omega),zq233,zq220,zq233,zq1187 (zq519 (by omega) (by omega)),if_neg (fun h => h0 h.1)]
   exact hrec k
def atF (l : List (List UInt8)) (i : Nat) : List UInt8 := l.getD i []
theorem zq1571 (l : List (List UInt8)) (i : Nat) : zq1553 (i : Int) (l.map zq871) = some (zq871 (atF l i),()) := by
 unfold zq1553 atF
 have hl : lenL (l.map zq871) = (l.length : Int) := by unfold lenL; rw [List.length_map]
 rw [hl]
 by_cases h : i < l.length
 ·have hg : (l.map zq871)[i]? = some (zq871 l[i]) := by rw [List.getElem?_map,zc0 h]; rfl
  rw [decide_eq_true (by omega),zq235,zq1187 (zq525 (by omega) (by omega)),zq471 hg,zq220,zc3,zc0 h]
  rfl
 ·rw [decide_eq_false (by omega),zq233,zc3,zc22 (by omega)]
  rfl
def toldO (l : List (List UInt8)) : Oq :=
 if tk (atF l 0) = 1 then ⟨1,(pfxA (atF l 1)).1,az,ByteArray.empty,0,0⟩
 else if tk (atF l 0) = 2 then ⟨2,pz,(zq994 (zq871 (atF l 1))).1,ByteArray.empty,0,0⟩
 else if tk (atF l 0) = 3 then ⟨3,pz,az,zq871 (atF l 1),digN (zq871 (atF l 2)),digN (zq871 (atF l 3))⟩
 else if tk (atF l 0) = 4 then ⟨4,pz,az,zq871 (atF l 1),0,0⟩
 else if tk (atF l 0) = 5 then ⟨5,pz,az,ByteArray.empty,0,digN (zq871 (atF l 1))⟩
 else oz
theorem told_t {l : List (List UInt8)} (h0 : l ≠ []) (hl : ∀ x ∈ l,x.length ≤ 1048576) : zq1561 (l.map zq871) = some (toldO l,()) := by
 have hat : ∀ i,(atF l i).length ≤ 1048576 := fun i => by
  unfold atF
  rw [zc3]
  cases hx : l[i]? with
  | none => simp
  | some x => exact hl x (zc5 hx)
 have p1 : ∀ i,zq1087 (zq871 (atF l i)) = some (pfxA (atF l i)) := fun i => by
  have := zq1082 (zq871 (atF l i)) (by rw [zq875]; exact hat i)
  rwa [zq874] at this
 have p2 : ∀ i,zq113 (zq871 (atF l i)) = some (zq994 (zq871 (atF l i))) := fun i => zq111 (by rw [zq875]; have := hat i; omega)
 have p3 : ∀ i,zq1051 (zq871 (atF l i)) = some (digN (zq871 (atF l i)),digB (zq871 (atF l i)),()) := fun i => zq356 (by rw [zq875]; have := hat i; omega)
 have hL : ∀ z,loopN zq1554 FUEL (((),(),(),((⟨#[]⟩ : ByteArray),(⟨#[112,111,111,108]⟩ : ByteArray),(⟨#[107,101,101,112]⟩ : ByteArray),(⟨#[103,114,97,110,116]⟩ : ByteArray),(⟨#[102,114,101,101]⟩ : ByteArray),(⟨#[116,105,99,107]⟩ : ByteArray),()),(0,()),()),(l.map zq871,(),(z,()),((⟨0,(⟨(⟨false,0,0⟩ : Ad),0⟩ : Pf),(⟨false,0,0⟩ : Ad),(ByteArray.empty),0,0⟩ : Oq),()),())) =
   some (((),(),(),()),(l.map zq871,(),(z,()),((⟨(tk (atF l 0) : Nat),pz,az,ByteArray.empty,0,0⟩ : Oq),()),())) := fun z => by
  cases l with
  | nil => exact absurd rfl h0
  | cons w r =>
   have := zq1577 w (r.map zq871) z 6 FUEL 0 (by omega) (zq463 (by omega))
   rw [zq612] at this
   exact this
 unfold zq1561
 rw [hL,zq220]
 simp only
 have t1 := zq1571 l 1
 have t2 := zq1571 l 2
 have t3 := zq1571 l 3
 rw [show ((1 : Nat) : Int) = 1 from rfl] at t1
 rw [show ((2 : Nat) : Int) = 2 from rfl] at t2
 rw [show ((3 : Nat) : Int) = 3 from rfl] at t3
 rw [t1,t2,t3]
 simp only [zq220,p1,p2,p3]
 unfold toldO
 have hd : ∀ k : Nat,decide (((tk (atF l 0) : Nat) : Int) = (k : Int)) = decide (tk (atF l 0) = k) := fun k => decide_eq_decide.2 (by omega)
 have h1 := hd 1
 have h2 := hd 2
 have h3 := hd 3
 have h4 := hd 4
 have h5 := hd 5
 rw [show ((1 : Nat) : Int) = 1 from rfl] at h1
 rw [show ((2 : Nat) : Int) = 2 from rfl] at h2
 rw [show ((3 : Nat) : Int) = 3 from rfl] at h3
 rw [show ((4 : Nat) : Int) = 4 from rfl] at h4
 rw [show ((5 : Nat) : Int) = 5 from rfl] at h5
 rw [h1,h2,h3,h4,h5]
 by_cases k1 : tk (atF l 0) = 1
 ·simp only [k1,decide_true,zq235,if_true]
  rfl
 by_cases k2 : tk (atF l 0) = 2
 ·simp only [k2,decide_true,zq235,if_true]
  rfl
 by_cases k3 : tk (atF l 0) = 3
 ·simp only [k3,decide_true,zq235,if_true]
  rfl
 by_cases k4 : tk (atF l 0) = 4
 ·simp only [k4,decide_true,zq235,if_true]
  rfl
 by_cases k5 : tk (atF l 0) = 5
 ·simp only [k5,decide_true,zq235,if_true]
  rfl
 have k0 : tk (atF l 0) = 0 := by
  unfold tk at k1 k2 k3 k4 k5 ⊢
  repeat' split at k1 <;> simp_all
 simp only [k0,k1,k2,k3,k4,k5,decide_false,zq233,if_false]
 rfl
theorem zq1003 (l : List UInt8) : (pfxA l).1.In ∧ ((pfxA l).2.1 = 0 → chkP (pfxA l).1 = 0) := by
 have hz : pz.In := zq856
 have hzc : ∀ e : Int,e ≠ 0 → (e = 0 → chkP pz = 0) := fun e h h2 => absurd h2 h
 unfold pfxA
 split
 ·rename_i x y _
  unfold pfx2
  cases ht : toldF (zq871 x) with
  | none => exact ⟨hz,fun h => (by cases h)⟩
  | some a =>
   have hn := zq860 y
   rcases hq : numA y with ⟨n,b,u⟩
   rw [hq] at hn
   cases b
   ·exact ⟨hz,fun h => (by cases h)⟩
   ·simp only
    split
    ·rename_i hc
     exact ⟨⟨zq1576 ht,hn.1,hn.2⟩,fun _ => hc⟩
    ·rename_i hc
     exact ⟨hz,fun h => absurd h hc⟩
 ·exact ⟨hz,fun h => (by cases h)⟩
theorem zq995 (s : ByteArray) : (zq994 s).1.In := by
 unfold zq994
 cases h : toldF s with
 | none => exact zq851
 | some a => exact zq1576 h
theorem zq1570 {l : List (List UInt8)} (hl : ∀ x ∈ l,x.length ≤ 1048576) : (toldO l).In := by
 have hat : ∀ i,(atF l i).length ≤ 1048576 := fun i => by
  unfold atF
  rw [zc3]
  cases hx : l[i]? with
  | none => simp
  | some x => exact hl x (zc5 hx)
 have hs : ∀ i,strIn (zq871 (atF l i)) := fun i => by
  have := hat i
  have hm : (1048576 : Nat) ≤ maxLen := by unfold maxLen; decide
  show (zq871 (atF l i)).size ≤ maxLen
  rw [zq875]
  omega
 have he : strIn ByteArray.empty := Nat.zero_le _
 have hz : pz.In := zq856
 have ha : az.In := zq851
 have hi : ∀ k : Int,-100 ≤ k → k ≤ 100 → i64In k := fun k h1 h2 => ⟨by omega,by omega⟩
 unfold toldO
 repeat' split
 ·exact ⟨hi 1 (by omega) (by omega),(zq1003 _).1,ha,he,hi 0 (by omega) (by omega),hi 0 (by omega) (by omega)⟩
 ·exact ⟨hi 2 (by omega) (by omega),hz,zq995 _,he,hi 0 (by omega) (by omega),hi 0 (by omega) (by omega)⟩
 ·exact ⟨hi 3 (by omega) (by omega),hz,ha,hs 1,zq350 _,zq350 _⟩
 ·exact ⟨hi 4 (by omega) (by omega),hz,ha,hs 1,hi 0 (by omega) (by omega),hi 0 (by omega) (by omega)⟩
 ·exact ⟨hi 5 (by omega) (by omega),hz,ha,he,hi 0 (by omega) (by omega),zq350 _⟩
 ·exact ⟨hi 0 (by omega) (by omega),hz,ha,he,hi 0 (by omega) (by omega),hi 0 (by omega) (by omega)⟩
def opR (l : List UInt8) : Option Oq := if formO (toldO (splL 32 [] l)) = 0 ∧ lineO (toldO (splL 32 [] l)) = l then some (toldO (splL 32 [] l)) else none
def opA (l : List UInt8) : Oq × Int × Unit := match opR l with | some o => (o,0,()) | none => (oz,1,())
theorem zq1534 (s : ByteArray) (hs : s.size ≤ 1048576) : zq1539 s = some (opA s.data.toList) := by
 have hsz : ∀ x ∈ splL 32 [] s.data.toList,x.length ≤ 1048576 := fun x hx => by
  have := zq1330 32 s.data.toList [] x hx
  rw [zq309] at this
  simp at this
  omega
 have hne := zq1327 32 [] s.data.toList
 have hsp : zq1496 s (⟨#[32]⟩ : ByteArray) = some ((splL 32 [] s.data.toList).map zq871,()) := by
  unfold zq1496
  rw [zq1187 (by rw [zc4]; exact ⟨Nat.ble_eq_true_of_le (by omega),rfl⟩)]
  have := zq1333 32 s
  unfold zq1332 at this
  rw [this]
 have hin := zq1570 hsz
 unfold zq1539 opA opR
 rw [hsp,zq220,told_t hne hsz,zq220,zq1378 hin,zq220]
 generalize toldO (splL 32 [] s.data.toList) = o at hin
 by_cases hf : formO o = 0
 ·rw [decide_eq_true (show (formO o,()).1 = 0 from hf),zc10,zq233,zq1525 hin (zq449 hf),zq220,zq220,zq1479]
  have : decide (zq871 (lineO o) = s) = decide (lineO o = s.data.toList) := decide_eq_decide.2 ⟨fun h => by rw [← h,zq874],fun h => by rw [h,zq872]⟩
  rw [this]
  by_cases hl : lineO o = s.data.toList
  ·rw [decide_eq_true hl,zc10,zq233,if_pos ⟨hf,hl⟩]
  ·rw [decide_eq_false hl,zc19,zq235,if_neg (fun h => hl h.2)]
   rfl
 ·rw [decide_eq_false (show ¬ (formO o,()).1 = 0 from hf),zc19,zq235,zq220,zq235,if_neg (fun h => hf h.1)]
  rfl
theorem zq893 {o : Oq} (hi : o.In) (hf : formO o = 0) : toldO (zq406 o) = o := by
 have hF := zq449 hf
 have hd : ∀ n : Nat,n < 10000 → digN (zq871 (Lib.decDigits n)) = (n : Int) := fun n hn => (zq351 hn).1
 cases hF with
 | @pool p h =>
  have hpi : p.In := hi.2.1
  have := (zq1524 hpi h).2.2
  have e : zq406 ⟨1,p,az,ByteArray.empty,0,0⟩ = [wK 1,textP p] := zq401 p
  have e0 : atF [wK 1,textP p] 0 = wK 1 := rfl
  have e1 : atF [wK 1,textP p] 1 = textP p := rfl
  rw [e,toldO,e0,e1,if_pos (by decide),this]
 | @keep a h =>
  have hai : a.In := hi.2.2.1
  have := (zq1519 hai.wf h).2.2
  have e : zq406 ⟨2,pz,a,ByteArray.empty,0,0⟩ = [wK 2,textA a] := zq402 a
  have e0 : atF [wK 2,textA a] 0 = wK 2 := rfl
  have e1 : atF [wK 2,textA a] 1 = textA a := rfl
  rw [e,toldO,e0,e1,if_neg (by decide),if_pos (by decide),zq994,this]
 | @grant w o n h ho hn =>
  have e : zq406 ⟨3,pz,az,w,(o : Int),(n : Int)⟩ = [wK 3,w.data.toList,Lib.decDigits o,Lib.decDigits n] := zq403 w o n
  have e0 : atF [wK 3,w.data.toList,Lib.decDigits o,Lib.decDigits n] 0 = wK 3 := rfl
  have e1 : atF [wK 3,w.data.toList,Lib.decDigits o,Lib.decDigits n] 1 = w.data.toList := rfl
  have e2 : atF [wK 3,w.data.toList,Lib.decDigits o,Lib.decDigits n] 2 = Lib.decDigits o := rfl
  have e3 : atF [wK 3,w.data.toList,Lib.decDigits o,Lib.decDigits n] 3 = Lib.decDigits n := rfl
  rw [e,toldO,e0,e1,e2,e3,if_neg (by decide),if_neg (by decide),if_pos (by decide),hd o (by omega),hd n (by omega),zq872]
 | @free w h =>
  have e : zq406 ⟨4,pz,az,w,0,0⟩ = [wK 4,w.data.toList] := zq404 w
  have e0 : atF [wK 4,w.data.toList] 0 = wK 4 := rfl
  have e1 : atF [wK 4,w.data.toList] 1 = w.data.toList := rfl
  rw [e,toldO,e0,e1,if_neg (by decide),if_neg (by decide),if_neg (by decide),if_pos (by decide),zq872]
 | @tick n hn =>
  have e : zq406 ⟨5,pz,az,ByteArray.empty,0,(n : Int)⟩ = [wK 5,Lib.decDigits n] := zq405 n
  have e0 : atF [wK 5,Lib.decDigits n] 0 = wK 5 := rfl
  have e1 : atF [wK 5,Lib.decDigits n] 1 = Lib.decDigits n := rfl
  rw [e,toldO,e0,e1,if_neg (by decide),if_neg (by decide),if_neg (by decide),if_neg (by decide),if_pos (by decide),hd n (by omega)]
theorem zq892 {o : Oq} (hi : o.In) (hf : formO o = 0) : opR (lineO o) = some o := by
 unfold opR
 rw [zq769 hi (zq449 hf),zq893 hi hf,if_pos ⟨hf,rfl⟩]
theorem zq768 {o : Oq} (hi : o.In) (hf : FormO o) : (lineO o).length ≤ 100 := by
 unfold lineO
 cases hf with
 | @pool p h =>
  have hpi : p.In := hi.2.1
  have := (zq1524 hpi h).1
  have hl : (wK 1).length = 4 := rfl
  rw [zq401,join2]
  simp
  omega
 | @keep a h =>
  have hai : a.In := hi.2.2.1
  have := (zq1519 hai.wf h).1
  have hl : (wK 2).length = 4 := rfl
  rw [zq402,join2]
  simp
  omega
 | @grant w o n h ho hn =>
  have h1 := (zq1627 h).1
  have d1 := zq332 3 o (by omega)
  have d2 := zq332 3 n (by omega)
  have hl : (wK 3).length = 5 := rfl
  rw [zq403,zq587,zq587,zq587,Lib.join_one]
  simp
  omega
 | @free w h =>
  have h1 := (zq1627 h).1
  have hl : (wK 4).length = 4 := rfl
  rw [zq404,join2]
  simp
  omega
 | @tick n hn =>
  have d2 := zq332 3 n (by omega)
  have hl : (wK 5).length = 4 := rfl
  rw [zq405,join2]
  simp
  omega
theorem zq17 (hb : zq652 = some (true,())) (hsb : zq647 = some (true,())) {o : Oq} (ho : o.In) {s : ByteArray} (hs : s.size ≤ 1048576) : zq621 o s = some (true,()) := by
 have hP := zq1534 s hs
 have hin := zq1570 (l := splL 32 [] s.data.toList) (fun x hx => by
  have := zq1330 32 s.data.toList [] x hx
  rw [zq309] at this
  simp at this
  omega)
 have hPr := zq1540 ho
 have key : ∀ x,opR s.data.toList = some x → zq1545 x = some (s,0,()) ∧ zq1380 x = some (0,()) := fun x hx => by
  unfold opR at hx
  split at hx
  ·rename_i hc
   injection hx with hx
   subst hx
   refine ⟨?_,by rw [zq1378 hin,hc.1]⟩
   rw [zq1540 hin,if_pos hc.1,hc.1,hc.2,zq872]
  ·cases hx
 have eqz : eqOq oz oz = true := by rw [zq396]; exact decide_eq_true rfl
 unfold zq621 zq615
 have tail : ∀ X : Option Bool,X = some false → True := fun _ _ => trivial
 by_cases hf : formO o = 0
 ·have hl := zq768 ho (zq449 hf)
  have hB := zq1534 (zq871 (lineO o)) (by rw [zq875]; omega)
  rw [zq874] at hB
  have hA : opA (lineO o) = (o,0,()) := by unfold opA; rw [zq892 ho hf]
  rw [hA] at hB
  rw [if_pos hf,hf] at hPr
  cases hr : opR s.data.toList with
  | none =>
   have hA2 : opA s.data.toList = (oz,1,()) := by unfold opA; rw [hr]
   rw [hA2] at hP
   simp [hb,hsb,hPr,hB,hP,br,zq396,oz,pz,az]
  | some x =>
   have hA2 : opA s.data.toList = (x,0,()) := by unfold opA; rw [hr]
   rw [hA2] at hP
   obtain ⟨k1,k2⟩ := key x hr
   simp [hb,hsb,hPr,hB,hP,k1,k2,br,zq396,zq1478]
 ·rw [if_neg hf] at hPr
  cases hr : opR s.data.toList with
  | none =>
   have hA2 : opA s.data.toList = (oz,1,()) := by unfold opA; rw [hr]
   rw [hA2] at hP
   simp [hb,hsb,hPr,hf,hP,br,zq396,oz,pz,az]
  | some x =>
   have hA2 : opA s.data.toList = (x,0,()) := by unfold opA; rw [hr]
   rw [hA2] at hP
   obtain ⟨k1,k2⟩ := key x hr
   simp [hb,hsb,hPr,hf,hP,k1,k2,br,zq396,zq1478]
end Go.Ma
namespace Go.Ma
open Go
def tb1 : Oq := ⟨1,⟨⟨false,0,8⟩,30⟩,⟨false,0,0⟩,ByteArray.empty,0,0⟩
theorem zq1515 : zq1539 (⟨#[112,111,111,108,32,48,46,48,46,48,46,56,47,51,48]⟩ : ByteArray) = some (tb1,0,()) := by kernel_rfl
theorem zq1516 : zq1539 (⟨#[112,111,111,108,32,48,46,48,46,48,46,56,47,48,51,48]⟩ : ByteArray) = some (oz,1,()) := by kernel_rfl
theorem zq1520 : zq652 = some (true,()) := by
 have h3 : zq1545 sop3 = some (⟨#[103,114,97,110,116,32,120,32,48,32,49,48]⟩,0,()) := by kernel_rfl
 unfold zq652
 rw [zq640,zq220]
 have g2 : geti [sop1,sop2,sop3] 2 = some sop3 := rfl
 have g0 : geti [sop1,sop2,sop3] 0 = some sop1 := rfl
 have hl : lenL [sop1,sop2,sop3] = 3 := rfl
 simp only [hl,g2,g0,zq220,h3,zq1515,zq1516]
 have e1 : zq1477 .eql (⟨#[103,114,97,110,116,32,120,32,48,32,49,48]⟩ : ByteArray) (⟨#[103,114,97,110,116,32,120,32,48,32,49,48]⟩ : ByteArray) = true := by kernel_rfl
 have e2 : eqOq tb1 sop1 = true := by kernel_rfl
 rw [zq1187 (by decide),e1,e2]
 simp only [decide_true,zq235]
 rw [zq1187 (by decide)]
end Go.Ma
namespace Go.Proofs.YtafggolijpopeaaGreatDoor
open Go Go.Ma
def noTi : TI := { known := false,kind := .other,agg := false,size := 0,zero := [],fields := [],elem := 0 }
def ti_1 : TI := ⟨true,.other,false,1,[.nilFunc],[],0,8,false,none,none,[],none,none⟩
def ti_2 : TI := ⟨true,(.int .i64),false,1,[.int .i64 0],[],0,8,false,some .int,none,[],none,none⟩
def ti_3 : TI := ti_2
def ti_4 : TI := ⟨true,.bool,false,1,[.bool false],[],0,1,false,some .bool,none,[],none,none⟩
def ti_5 : TI := ⟨true,(.int .u8),false,1,[.int .u8 0],[],0,1,false,some .u8,none,[],none,none⟩
def ti_6 : TI := ti_5
def ti_7 : TI := ⟨true,.struct,true,4,[.int .i64 0,.int .i64 0,.bool false,.int .u8 0],[(0,2),(1,3),(2,4),(3,6)],0,24,false,none,none,[],none,none⟩
def ti_8 : TI := ti_7
def ti_9 : TI := ⟨true,.str,false,1,[.string .empty],[],0,16,false,some .str,none,[],some 0,none⟩
def ti_10 : TI := ⟨true,.str,false,1,[.string .empty],[],0,16,false,some .str,none,[],none,none⟩
def ti_11 : TI := ti_10
def ti_12 : TI := ⟨true,(.int .u64),false,1,[.int .u64 0],[],0,8,false,some .u64,none,[],none,none⟩
def ti_13 : TI := ⟨true,.struct,true,2,[.string .empty,.int .u64 0],[(0,9),(1,12)],0,24,false,none,none,[],none,none⟩
def ti_14 : TI := ti_13
def ti_15 : TI := ⟨true,.other,false,1,[.pointer none],[],0,8,false,none,none,[],none,none⟩
def ti_16 : TI := ti_15
def ti_17 : TI := ti_15
def ti_18 : TI := ⟨true,.struct,true,1,[.pointer none],[(0,17)],0,8,false,none,none,[],none,none⟩
def ti_19 : TI := ti_18
def ti_20 : TI := ⟨true,.other,false,1,[.nilIface],[],0,16,false,none,none,[],none,none⟩
def ti_21 : TI := ⟨true,(.int .i32),false,1,[.int .i32 0],[],0,4,false,none,none,[],none,none⟩
def ti_22 : TI := ti_12
def ti_23 : TI := ⟨true,.struct,true,3,[.bool false,.int .u64 0,.int .u64 0],[(0,4),(1,22),(2,22)],0,24,false,none,none,[],none,none⟩
def ti_24 : TI := ⟨true,.struct,true,3,[.bool false,.int .u64 0,.int .u64 0],[(0,4),(1,22),(2,22)],0,24,true,some .addr,none,[],none,none⟩
def ti_25 : TI := ⟨true,.struct,true,4,[.bool false,.int .u64 0,.int .u64 0,.int .i64 0],[(0,24),(3,3)],0,32,false,none,none,[],none,none⟩
def ti_26 : TI := ⟨true,.struct,true,4,[.bool false,.int .u64 0,.int .u64 0,.int .i64 0],[(0,24),(3,3)],0,32,true,some .pfx,none,[],none,none⟩
def ti_27 : TI := ti_2
def ti_29 : TI := ti_1
def ti_31 : TI := ti_1
def ti_33 : TI := ti_1
def ti_35 : TI := ti_1
def ti_37 : TI := ti_1
def ti_38 : TI := ti_1
def ti_39 : TI := ti_1
def ti_40 : TI := ti_1
def ti_41 : TI := ti_1
def ti_42 : TI := ti_1
def ti_44 : TI := ti_1
def ti_46 : TI := ti_1
def ti_47 : TI := ti_1
def ti_48 : TI := ti_1
def ti_49 : TI := ti_1
def ti_50 : TI := ⟨true,.struct,true,11,[.int .i64 0,.bool false,.int .u64 0,.int .u64 0,.int .i64 0,.bool false,.int .u64 0,.int .u64 0,.string .empty,.int .i64 0,.int .i64 0],[(0,3),(1,26),(5,24),(8,9),(9,3),(10,3)],0,96,false,none,none,[],none,none⟩
def ti_51 : TI := ⟨true,.struct,true,11,[.int .i64 0,.bool false,.int .u64 0,.int .u64 0,.int .i64 0,.bool false,.int .u64 0,.int .u64 0,.string .empty,.int .i64 0,.int .i64 0],[(0,3),(1,26),(5,24),(8,9),(9,3),(10,3)],0,96,true,some .op,none,[],none,none⟩
def ti_52 : TI := ti_1
def ti_54 : TI := ti_1
def ti_56 : TI := ti_1
def ti_72 : TI := ⟨true,.slice,false,1,[.slice none 0 0],[],5,24,false,none,none,[(0,.inl .u8,5)],none,none⟩
def ti_74 : TI := ⟨true,.slice,false,1,[.slice none 0 0],[],9,24,false,none,none,[(0,.inl .str,9)],none,none⟩
def ti_86 : TI := ⟨true,.slice,false,1,[.slice none 0 0],[],51,24,false,none,none,[(0,.inl .op,51)],none,none⟩
def ti_88 : TI := ⟨true,.slice,false,1,[.slice none 0 0],[],116,24,false,none,none,[(0,.inr (.pfx,.addr,24),116)],none,none⟩
def ti_89 : TI := ⟨true,.slice,false,1,[.slice none 0 0],[],121,24,false,none,none,[(0,.inl .lease,121)],none,none⟩
def ti_91 : TI := ⟨true,.struct,true,3,[.slice none 0 0,.slice none 0 0,.int .i64 0],[(0,88),(1,89),(2,3)],0,56,false,none,none,[(0,.inr (.pfx,.addr,24),116),(1,.inl .lease,121)],none,none⟩
def ti_97 : TI := ti_1
def ti_99 : TI := ti_20
def ti_105 : TI := ⟨true,.other,true,8,[.int .i64 0,.int .i64 0,.int .i64 0,.int .i64 0,.int .i64 0,.int .i64 0,.int .i64 0,.int .i64 0],[],3,64,false,none,none,[],none,some 8⟩
def ti_109 : TI := ⟨true,.other,true,6,[.string .empty,.string .empty,.string .empty,.string .empty,.string .empty,.string .empty],[],9,96,false,none,none,[],some 0,none⟩
def ti_114 : TI := ⟨true,.slice,false,1,[.slice none 0 0],[],24,24,false,none,none,[(0,.inl .addr,24)],none,none⟩
def ti_116 : TI := ⟨true,.struct,true,5,[.bool false,.int .u64 0,.int .u64 0,.int .i64 0,.slice none 0 0],[(0,26),(4,114)],0,56,false,none,some (.pfx,.addr,24),[(4,.inl .addr,24)],none,none⟩
def ti_121 : TI := ⟨true,.struct,true,5,[.bool false,.int .u64 0,.int .u64 0,.string .empty,.int .i64 0],[(0,24),(3,9),(4,3)],0,48,true,some .lease,none,[],none,none⟩
def ti_130 : TI := ⟨true,.struct,true,0,[],[],0,0,false,none,none,[],none,none⟩
def ti_135 : TI := ti_15
def ti_137 : TI := ⟨true,.struct,true,2,[.pointer none,.slice none 0 0],[(0,135),(1,72)],0,32,false,none,none,[(1,.inl .u8,5)],none,none⟩
def ti_141 : TI := ti_15
def ti_144 : TI := ⟨true,.struct,true,3,[.slice none 0 0,.slice none 0 0,.int .i64 0],[(0,91)],0,56,false,none,none,[(0,.inr (.pfx,.addr,24),116),(1,.inl .lease,121)],none,none⟩
def ti_146 : TI := ti_1
def ti_149 : TI := ti_1
def ti_150 : TI := ⟨true,.other,false,1,[.map none],[],0,8,false,none,none,[],none,none⟩
def ti_152 : TI := ti_1
def ti_157 : TI := ti_12
def ti_158 : TI := ⟨true,.slice,false,1,[.slice none 0 0],[],22,24,false,none,none,[(0,.inl .u64,22)],none,none⟩
def ti_161 : TI := ti_2
def ti_164 : TI := ti_15
def ti_174 : TI := ti_1
def ti_176 : TI := ⟨true,.other,true,24,[.int .u8 0,.int .u8 0,.int .u8 0,.int .u8 0,.int .u8 0,.int .u8 0,.int .u8 0,.int .u8 0,.int .u8 0,.int .u8 0,.int .u8 0,.int .u8 0,.int .u8 0,.int .u8 0,.int .u8 0,.int .u8 0,.int .u8 0,.int .u8 0,.int .u8 0,.int .u8 0,.int .u8 0,.int .u8 0,.int .u8 0,.int .u8 0],[],5,24,false,none,none,[],none,none⟩
def ti_181 : TI := ⟨true,(.int .u32),false,1,[.int .u32 0],[],0,4,false,none,none,[],none,none⟩
def ti_186 : TI := ti_1
def ti_187 : TI := ⟨true,.struct,true,3,[.string .empty,.string .empty,.nilIface],[(0,9),(1,9),(2,99)],0,48,false,none,none,[],none,none⟩
def ti_188 : TI := ti_187
def ti_190 : TI := ti_15
def ti_195 : TI := ti_1
def ti_203 : TI := ti_1
def ti_207 : TI := ⟨true,.other,true,20,[.int .u64 0,.int .u64 0,.int .u64 0,.int .u64 0,.int .u64 0,.int .u64 0,.int .u64 0,.int .u64 0,.int .u64 0,.int .u64 0,.int .u64 0,.int .u64 0,.int .u64 0,.int .u64 0,.int .u64 0,.int .u64 0,.int .u64 0,.int .u64 0,.int .u64 0,.int .u64 0],[],22,160,false,none,none,[],none,none⟩
def ti_212 : TI := ti_15
def ti_214 : TI := ⟨true,.struct,true,1,[.string .empty],[(0,9)],0,16,false,none,none,[],none,none⟩
def ti_217 : TI := ⟨true,.struct,true,2,[.int .u8 0,.int .u8 0],[(0,5),(1,5)],0,2,false,none,none,[],none,none⟩
def ti_218 : TI := ⟨true,.other,true,32,[.int .u8 0,.int .u8 0,.int .u8 0,.int .u8 0,.int .u8 0,.int .u8 0,.int .u8 0,.int .u8 0,.int .u8 0,.int .u8 0,.int .u8 0,.int .u8 0,.int .u8 0,.int .u8 0,.int .u8 0,.int .u8 0,.int .u8 0,.int .u8 0,.int .u8 0,.int .u8 0,.int .u8 0,.int .u8 0,.int .u8 0,.int .u8 0,.int .u8 0,.int .u8 0,.int .u8 0,.int .u8 0,.int .u8 0,.int .u8 0,.int .u8 0,.int .u8 0],[],217,32,false,none,none,[],none,none⟩
def ti_223 : TI := ti_15
def ti_225 : TI := ⟨true,.struct,true,6,[.bool false,.int .u64 0,.int .u64 0,.int .i64 0,.slice none 0 0,.slice none 0 0],[(0,116),(5,89)],0,80,false,none,none,[(4,.inl .addr,24),(5,.inl .lease,121)],none,none⟩
def ti_233 : TI := ti_1
def ti_237 : TI := ti_2
def ti_243 : TI := ⟨true,.other,true,32,[.int .u8 0,.int .u8 0,.int .u8 0,.int .u8 0,.int .u8 0,.int .u8 0,.int .u8 0,.int .u8 0,.int .u8 0,.int .u8 0,.int .u8 0,.int .u8 0,.int .u8 0,.int .u8 0,.int .u8 0,.int .u8 0,.int .u8 0,.int .u8 0,.int .u8 0,.int .u8 0,.int .u8 0,.int .u8 0,.int .u8 0,.int .u8 0,.int .u8 0,.int .u8 0,.int .u8 0,.int .u8 0,.int .u8 0,.int .u8 0,.int .u8 0,.int .u8 0],[],5,32,false,none,none,[],none,none⟩
def ti_244 : TI := ⟨true,.other,true,64,[.int .u8 0,.int .u8 0,.int .u8 0,.int .u8 0,.int .u8 0,.int .u8 0,.int .u8 0,.int .u8 0,.int .u8 0,.int .u8 0,.int .u8 0,.int .u8 0,.int .u8 0,.int .u8 0,.int .u8 0,.int .u8 0,.int .u8 0,.int .u8 0,.int .u8 0,.int .u8 0,.int .u8 0,.int .u8 0,.int .u8 0,.int .u8 0,.int .u8 0,.int .u8 0,.int .u8 0,.int .u8 0,.int .u8 0,.int .u8 0,.int .u8 0,.int .u8 0,.int .u8 0,.int .u8 0,.int .u8 0,.int .u8 0,.int .u8 0,.int .u8 0,.int .u8 0,.int .u8 0,.int .u8 0,.int .u8 0,.int .u8 0,.int .u8 0,.int .u8 0,.int .u8 0,.int .u8 0,.int .u8 0,.int .u8 0,.int .u8 0,.int .u8 0,.int .u8 0,.int .u8 0,.int .u8 0,.int .u8 0,.int .u8 0,.int .u8 0,.int .u8 0,.int .u8 0,.int .u8 0,.int .u8 0,.int .u8 0,.int .u8 0,.int .u8 0],[],5,64,false,none,none,[],none,none⟩
def ti_248 : TI := ti_12
def ti_252 : TI := ti_15
def ti_256 : TI := ti_15
def ty (t : Nat) : TI := bif Nat.blt t 272 then (bif Nat.blt t 136 then (bif Nat.blt t 68 then (bif Nat.blt t 34 then (bif Nat.blt t 17 then (bif Nat.blt t 8 then (bif Nat.blt t 4 then (bif Nat.blt t 2 then (bif Nat.blt t 1 then noTi else ti_1) else (bif Nat.blt t 3 then ti_2 else ti_3)) else (bif Nat.blt t 6 then (bif Nat.blt t 5 then ti_4 else ti_5) else (bif Nat.blt t 7 then ti_6 else ti_7))) else (bif Nat.blt t 12 then (bif Nat.blt t 10 then (bif Nat.blt t 9 then ti_8 else ti_9) else (bif Nat.blt t 11 then ti_10 else ti_11)) else (bif Nat.blt t 14 then (bif Nat.blt t 13 then ti_12 else ti_13) else (bif Nat.blt t 15 then ti_14 else (bif Nat.blt t 16 then ti_15 else ti_16))))) else (bif Nat.blt t 25 then (bif Nat.blt t 21 then (bif Nat.blt t 19 then (bif Nat.blt t 18 then ti_17 else ti_18) else (bif Nat.blt t 20 then ti_19 else ti_20)) else (bif Nat.blt t 23 then (bif Nat.blt t 22 then ti_21 else ti_22) else (bif Nat.blt t 24 then ti_23 else ti_24))) else (bif Nat.blt t 29 then (bif Nat.blt t 27 then (bif Nat.blt t 26 then ti_25 else ti_26) else (bif Nat.blt t 28 then ti_27 else noTi)) else (bif Nat.blt t 31 then (bif Nat.blt t 30 then ti_29 else noTi) else (bif Nat.blt t 32 then ti_31 else (bif Nat.blt t 33 then noTi else ti_33)))))) else (bif Nat.blt t 51 then (bif Nat.blt t 42 then (bif Nat.blt t 38 then (bif Nat.blt t 36 then (bif Nat.blt t 35 then noTi else ti_35) else (bif Nat.blt t 37 then noTi else ti_37)) else (bif Nat.blt t 40 then (bif Nat.blt t 39 then ti_38 else ti_39) else (bif Nat.blt t 41 then ti_40 else ti_41))) else (bif Nat.blt t 46 then (bif Nat.blt t 44 then (bif Nat.blt t 43 then ti_42 else noTi) else (bif Nat.blt t 45 then ti_44 else noTi)) else (bif Nat.blt t 48 then (bif Nat.blt t 47 then ti_46 else ti_47) else (bif Nat.blt t 49 then ti_48 else (bif Nat.blt t 50 then ti_49 else ti_50))))) else (bif Nat.blt t 59 then (bif Nat.blt t 55 then (bif Nat.blt t 53 then (bif Nat.blt t 52 then ti_51 else ti_52) else (bif Nat.blt t 54 then noTi else ti_54)) else (bif Nat.blt t 57 then (bif Nat.blt t 56 then noTi else ti_56) else noTi)) else noTi))) else (bif Nat.blt t 102 then (bif Nat.blt t 85 then (bif Nat.blt t 76 then (bif Nat.blt t 72 then noTi else (bif Nat.blt t 74 then (bif Nat.blt t 73 then ti_72 else noTi) else (bif Nat.blt t 75 then ti_74 else noTi))) else noTi) else (bif Nat.blt t 93 then (bif Nat.blt t 89 then (bif Nat.blt t 87 then (bif Nat.blt t 86 then noTi else ti_86) else (bif Nat.blt t 88 then noTi else ti_88)) else (bif Nat.blt t 91 then (bif Nat.blt t 90 then ti_89 else noTi) else (bif Nat.blt t 92 then ti_91 else noTi))) else (bif Nat.blt t 97 then noTi else (bif Nat.blt t 99 then (bif Nat.blt t 98 then ti_97 else noTi) else (bif Nat.blt t 100 then ti_99 else noTi))))) else (bif Nat.blt t 119 then (bif Nat.blt t 110 then (bif Nat.blt t 106 then (bif Nat.blt t 104 then noTi else (bif Nat.blt t 105 then noTi else ti_105)) else (bif Nat.blt t 108 then noTi else (bif Nat.blt t 109 then noTi else ti_109))) else (bif Nat.blt t 114 then noTi else (bif Nat.blt t 116 then (bif Nat.blt t 115 then ti_114 else noTi) else (bif Nat.blt t 117 then ti_116 else noTi)))) else (bif Nat.blt t 127 then (bif Nat.blt t 123 then (bif Nat.blt t 121 then noTi else (bif Nat.blt t 122 then ti_121 else noTi)) else noTi) else (bif Nat.blt t 131 then (bif Nat.blt t 129 then noTi else (bif Nat.blt t 130 then noTi else ti_130)) else (bif Nat.blt t 133 then noTi else (bif Nat.blt t 134 then noTi else (bif Nat.blt t 135 then noTi else ti_135)))))))) else (bif Nat.blt t 204 then (bif Nat.blt t 170 then (bif Nat.blt t 153 then (bif Nat.blt t 144 then (bif Nat.blt t 140 then (bif Nat.blt t 138 then (bif Nat.blt t 137 then noTi else ti_137) else noTi) else (bif Nat.blt t 142 then (bif Nat.blt t 141 then noTi else ti_141) else noTi)) else (bif Nat.blt t 148 then (bif Nat.blt t 146 then (bif Nat.blt t 145 then ti_144 else noTi) else (bif Nat.blt t 147 then ti_146 else noTi)) else (bif Nat.blt t 150 then (bif Nat.blt t 149 then noTi else ti_149) else (bif Nat.blt t 151 then ti_150 else (bif Nat.blt t 152 then noTi else ti_152))))) else (bif Nat.blt t 161 then (bif Nat.blt t 157 then noTi else (bif Nat.blt t 159 then (bif Nat.blt t 158 then ti_157 else ti_158) else noTi)) else (bif Nat.blt t 165 then (bif Nat.blt t 163 then (bif Nat.blt t 162 then ti_161 else noTi) else (bif Nat.blt t 164 then noTi else ti_164)) else noTi))) else (bif Nat.blt t 187 then (bif Nat.blt t 178 then (bif Nat.blt t 174 then noTi else (bif Nat.blt t 176 then (bif Nat.blt t 175 then ti_174 else noTi) else (bif Nat.blt t 177 then ti_176 else noTi))) else (bif Nat.blt t 182 then (bif Nat.blt t 180 then noTi else (bif Nat.blt t 181 then noTi else ti_181)) else (bif Nat.blt t 184 then noTi else (bif Nat.blt t 185 then noTi else (bif Nat.blt t 186 then noTi else ti_186))))) else (bif Nat.blt t 195 then (bif Nat.blt t 191 then (bif Nat.blt t 189 then (bif Nat.blt t 188 then ti_187 else ti_188) else (bif Nat.blt t 190 then noTi else ti_190)) else noTi) else (bif Nat.blt t 199 then (bif Nat.blt t 197 then (bif Nat.blt t 196 then ti_195 else noTi) else noTi) else (bif Nat.blt t 201 then noTi else (bif Nat.blt t 202 then noTi else (bif Nat.blt t 203 then noTi else ti_203))))))) else (bif Nat.blt t 238 then (bif Nat.blt t 221 then (bif Nat.blt t 212 then (bif Nat.blt t 208 then (bif Nat.blt t 206 then noTi else (bif Nat.blt t 207 then noTi else ti_207)) else noTi) else (bif Nat.blt t 216 then (bif Nat.blt t 214 then (bif Nat.blt t 213 then ti_212 else noTi) else (bif Nat.blt t 215 then ti_214 else noTi)) else (bif Nat.blt t 218 then (bif Nat.blt t 217 then noTi else ti_217) else (bif Nat.blt t 219 then ti_218 else noTi)))) else (bif Nat.blt t 229 then (bif Nat.blt t 225 then (bif Nat.blt t 223 then noTi else (bif Nat.blt t 224 then ti_223 else noTi)) else (bif Nat.blt t 227 then (bif Nat.blt t 226 then ti_225 else noTi) else noTi)) else (bif Nat.blt t 233 then noTi else (bif Nat.blt t 235 then (bif Nat.blt t 234 then ti_233 else noTi) else (bif Nat.blt t 236 then noTi else (bif Nat.blt t 237 then noTi else ti_237)))))) else (bif Nat.blt t 255 then (bif Nat.blt t 246 then (bif Nat.blt t 242 then noTi else (bif Nat.blt t 244 then (bif Nat.blt t 243 then noTi else ti_243) else (bif Nat.blt t 245 then ti_244 else noTi))) else (bif Nat.blt t 250 then (bif Nat.blt t 248 then noTi else (bif Nat.blt t 249 then ti_248 else noTi)) else (bif Nat.blt t 252 then noTi else (bif Nat.blt t 253 then ti_252 else noTi)))) else (bif Nat.blt t 263 then (bif Nat.blt t 259 then (bif Nat.blt t 257 then (bif Nat.blt t 256 then noTi else ti_256) else noTi) else noTi) else noTi))))) else noTi
theorem zq1596 (t : Nat) (h : 272 ≤ t) : ty t = noTi := by
 have e : Nat.blt t 272 = false := by
  cases hb : Nat.blt t 272
  ·rfl
  ·have := Nat.le_of_ble_eq_true hb
   omega
 unfold ty
 rw [e]
 rfl
def zq1594 : List Nat := [1,2,3,4,5,6,7,8,9,10,11,12,13,14,15,16,17,18,19,20,21,22,23,24,25,26,27,29,31,33,35,37,38,39,40,41,42,44,46,47,48,49,50,51,52,54,56,72,74,86,88,89,91,97,99,105,109,114,116,121,130,135,137,141,144,146,149,150,152,157,158,161,164,174,176,181,186,187,188,190,195,203,207,212,214,217,218,223,225,233,237,243,244,248,252,256]
theorem zq1598 : zq1594.map (fun t => ({ ty t with eq := false,k := none,nk := none,sl := [],gl := none,arr := none } : TI)) = zq1594.map (tiOf Tryz.prog) := by kernel_rfl
theorem ty_in : (List.range 272).all (fun t => !(ty t).known || zq1594.contains t) = true := by kernel_rfl
theorem zq1597 (t : Nat) (h : (ty t).known = true) : zq20 Tryz.prog t (ty t) := by
 refine zq1593 h ?_
 have hlt : t < 272 := by
  rcases Nat.lt_or_ge t 272 with h' | h'
  ·exact h'
  ·have : (ty t) = noTi := zq1596 t h'
   rw [this] at h
   cases h
 have h1 := zc17.1 ty_in t (List.mem_range.2 hlt)
 rw [h] at h1
 have hmem : t ∈ zq1594 := by simpa using h1
 have := List.map_inj_left.1 zq1598 t hmem
 exact this
theorem eq_24 : zq16 Tryz.prog 24 (ty 24).zero := zq1497 zq1597 24 (ty 24).zero (by kernel_rfl) (by kernel_rfl) (by kernel_rfl)
theorem eq_26 : zq16 Tryz.prog 26 (ty 26).zero := zq1497 zq1597 26 (ty 26).zero (by kernel_rfl) (by kernel_rfl) (by kernel_rfl)
theorem eq_51 : zq16 Tryz.prog 51 (ty 51).zero := zq1497 zq1597 51 (ty 51).zero (by kernel_rfl) (by kernel_rfl) (by kernel_rfl)
theorem eq_121 : zq16 Tryz.prog 121 (ty 121).zero := zq1497 zq1597 121 (ty 121).zero (by kernel_rfl) (by kernel_rfl) (by kernel_rfl)
def tyEqs : List Nat := [24,26,51,121]
theorem eq_in : (List.range 272).all (fun t => !(ty t).eq || tyEqs.contains t) = true := by kernel_rfl
theorem ty_eq (t : Nat) (h : (ty t).eq = true) : zq16 Tryz.prog t (ty t).zero := by
 have hlt : t < 272 := by
  rcases Nat.lt_or_ge t 272 with h' | h'
  ·exact h'
  ·rw [zq1596 t h'] at h
   cases h
 have h1 := zc17.1 eq_in t (List.mem_range.2 hlt)
 rw [h] at h1
 have hmem : t ∈ tyEqs := by simpa using h1
 simp only [tyEqs,zc28,zc38,or_false] at hmem
 rcases hmem with rfl | rfl | rfl | rfl
 ·exact eq_24
 ·exact eq_26
 ·exact eq_51
 ·exact eq_121
def tyGls : List Nat := [109,9]
theorem gl_in : (List.range 272).all (fun t => !(ty t).gl.isSome || tyGls.contains t) = true := by kernel_rfl
theorem ty_gl (t g : Nat) (h : (ty t).gl = some g) : Tryz.prog.globalNamed "yardarm/text.words" = some g ∧ ((ty t).agg = true → Tryz.prog.underlying t = some (.array 6 (ty t).elem)) := by
 have hlt : t < 272 := by
  rcases Nat.lt_or_ge t 272 with h' | h'
  ·exact h'
  ·rw [zq1596 t h'] at h
   cases h
 have h1 := zc17.1 gl_in t (List.mem_range.2 hlt)
 rw [h] at h1
 have hmem : t ∈ tyGls := by simpa using h1
 simp only [tyGls,zc28,zc38,or_false] at hmem
 rcases hmem with rfl | rfl
 ·have e1 : (ty 109).gl = some 0 := by kernel_rfl
  rw [e1] at h
  cases h
  exact ⟨by kernel_rfl,fun _ => by kernel_rfl⟩
 ·have e1 : (ty 9).gl = some 0 := by kernel_rfl
  rw [e1] at h
  cases h
  exact ⟨by kernel_rfl,fun h => (by have e2 : (ty 9).agg = false := (by kernel_rfl); rw [e2] at h; cases h)⟩
def zq1592 : List Nat := [105]
theorem arr_in : (List.range 272).all (fun t => !(ty t).arr.isSome || zq1592.contains t) = true := by kernel_rfl
theorem zq1595 : Tryz.prog.underlying 105 = some (.array 8 (ty 105).elem) := by kernel_rfl
theorem ty_arr (t k : Nat) (h : (ty t).arr = some k) : Tryz.prog.underlying t = some (.array k (ty t).elem) := by
 have hlt : t < 272 := by
  rcases Nat.lt_or_ge t 272 with h' | h'
  ·exact h'
  ·rw [zq1596 t h'] at h
   cases h
 have h1 := zc17.1 arr_in t (List.mem_range.2 hlt)
 rw [h] at h1
 have hmem : t ∈ zq1592 := by simpa using h1
 simp only [zq1592,zc28,zc38,or_false] at hmem
 rcases hmem with rfl
 ·have e1 : (ty 105).arr = some 8 := by kernel_rfl
  rw [e1] at h
  have h2 : k = 8 := by injection h with h; exact h.symm
  rw [h2]
  exact zq1595
theorem tyOk : TOk Tryz.prog ty := ⟨zq1597,ty_eq,by kernel_rfl,ty_gl,ty_arr⟩
def fnExt : List Nat := [0,1,124,138,152,158,159,182,184,200,225,226,227,228,229,230,231,232,233,234,235,236,237,238,239,240,241,242,243,244,245,246,247,248,249,250,251,252,253,254]
def fnB (f : Nat) : Bool := decide (f < 256) && !fnExt.contains f
theorem fn_all : (List.range 256).all (fun f => !fnB f || (match Tryz.prog.funcs[f]? with | some fn => fn.body.isSome && !(fn.name == "runtime.NumGoroutine") | none => false)) = true := by kernel_rfl
theorem fn_ok (f : Nat) (h : fnB f = true) : zq5 Tryz.prog f := by
 have hlt : f < 256 := by
  unfold fnB at h
  simp only [zc4,decide_eq_true_eq] at h
  exact h.1
 have h1 := zc17.1 fn_all f (List.mem_range.2 hlt)
 rw [h] at h1
 simp only [zc10,Bool.false_or] at h1
 unfold zq5
 cases hf : Tryz.prog.funcs[f]? with
 | none => rw [hf] at h1; cases h1
 | some fn =>
  rw [hf] at h1
  simp only [zc4,Bool.not_eq_true'] at h1
  exact ⟨fn,rfl,h1.1,h1.2⟩
end Go.Proofs.YtafggolijpopeaaGreatDoor
namespace Go.Proofs.YtafggolijpopeaaGreatDoor
open Go Go.Ma Go.RowKit Go.Lib Go.Proofs
theorem zq1217 {P : Program} (w : World) (dT sT ty elem : TypeId) (s : Nat) (b o dLen dCap : Nat) (a : Addr) (sLen sCap q : Nat) (cs : List Value)
  (hu : P.underlying dT = some (.slice elem)) (hs : (P.info? elem).map (·.size) = some s) (hq : q = Nat.min sLen dLen) (hn : cs.length = q * s)
  (hsrc : ∀ j v,cs[j]? = some v → w.cell? (a.add j) = some v) (hc : ∀ j,j < cs.length → (w.cell? ⟨b,o + j,none⟩).isSome = true) (hf : ∀ j,j < cs.length → w.frozen? ⟨b,o + j,none⟩ = false) (h1 : ∀ v ∈ cs,v.oneCell' = true) :
  (Builtin.copy_ #[dT,sT] ty #[.slice (some ⟨b,o,none⟩) dLen dCap,.slice (some a) sLen sCap]).run P w = .ok (goInt q) (w.setCells b o cs) := by
 have hl := run_loadCells_list (P := P) w a cs hsrc
 have hst := run_storeCells_cells (P := P) b o cs 0 w (by simpa using hc) (by simpa using hf) h1
 cases hq' : P.info? elem with
 | none => simp [hq'] at hs
 | some i =>
  have hi : i.size = s := by simpa [hq'] using hs
  rw [hn] at hl
  subst hi
  simp [Builtin.copy_,run_underlying hu,Builtin.lenOf,Builtin.firstCells,sizeOf,typeInfo,hq',← hq,hl,hst]
theorem zq531 : (Tryz.prog.info? 121).map (fun i => (i.zero.map (·.cells.size),i.size,i.bytes)) = some (some 5,5,48) := by kernel_rfl
theorem zq1259 (w : World) : (Go.sizeOf 121).run Tryz.prog w = .ok 5 w := by kernel_rfl
theorem zq828 : Tryz.prog.follows .mixedOrders = true := by kernel_rfl
set_option maxHeartbeats 4000000 in
set_option maxRecDepth 100000 in
/-- There is room, i < len(s): in place. -/
theorem zq564 (b off n c i vb voff m vc : Nat) (cs vs : List Value) (w : World) (hi : i < n) (hm : 0 < m) (hroom : n + m ≤ c) (hc63 : c ≤ 9223372036854775807) (hvb : vb ≠ b)
  (hcl : cs.length = n * 5) (hvl : vs.length = m * 5)
  (hcs : ∀ j v,cs[j]? = some v → w.cell? ⟨b,off + j,none⟩ = some v) (hsp : ∀ j,j < (n + m) * 5 → (w.cell? ⟨b,off + j,none⟩).isSome = true) (hfz : ∀ j,j < (n + m) * 5 → w.frozen? ⟨b,off + j,none⟩ = false)
  (hvs : ∀ j v,vs[j]? = some v → w.cell? ⟨vb,voff + j,none⟩ = some v) (h1c : ∀ v ∈ cs,v.oneCell' = true) (h1v : ∀ v ∈ vs,v.oneCell' = true)
  (tA tB : TypeId) (kA kB : Nat) (hsa : w.shape? vb = some (tA,kA)) (hsb : w.shape? b = some (tB,kB)) (hkB : kB ≠ 0) (hfa : w.frozen? ⟨vb,voff,none⟩ = false) (hfe : w.frozen? ⟨vb,kA,none⟩ = false) :
  Calls Tryz.prog 191 #[.slice (some ⟨b,off,none⟩) n c,.int .i64 i,.slice (some ⟨vb,voff,none⟩) m vc] w fun e w' =>
   e = .returned (.slice (some ⟨b,off,none⟩) (n + m) c) ∧ w' = (w.drew.setCells b (off + (i + m) * 5) (cs.drop (i * 5))).setCells b (off + i * 5) vs := by
 have u30 := run_underlying Tryz.underlying89
 have z49 := zq1259
 have hz1 : ¬ ((m : Int) = 0) := by omega
 have hz2 : ¬ ((i : Int) = (n : Int)) := by omega
 have hsz : (Tryz.prog.info? 121).map (·.size) = some 5 := by
  obtain ⟨i0,hi0,hz⟩ := zc7.1 zq531
  simp only [zc11] at hz
  rw [hi0]; simp [hz.2.1]
 have hov : ∀ lb cb,(callFunc 200 #[.slice (some ⟨vb,voff,none⟩) m vc,.slice (some ⟨b,off + (i + m) * 5,none⟩) lb cb]).run Tryz.prog w = .ok (.value (.bool false)) w := fun lb cb => by
  rw [run_callFunc_extern Tryz.func200 (by kernel_rfl) (by kernel_rfl) (by kernel_rfl) (e := Extern.SlicesOverlaps.overlaps #[89,89] #[4]) (by kernel_rfl),
   Lib.run_overlaps_apart w 89 4 121 Tryz.underlying89 5 zq1259 ⟨vb,voff,none⟩ ⟨b,off + (i + m) * 5,none⟩ m vc lb cb hvb tA tB kA kB hsa hsb hkB hfa hfe]
  rfl
 have hdl : (cs.drop (i * 5)).length = (n - i) * 5 := by rw [zc41,hcl]; omega
 have mixed := zq828
 have hw1 : IntKind.i64.wrap ((i : Int) + (m : Int)) = (i : Int) + (m : Int) := by rw [IntKind.wrap_i64]; omega
 have hb1 : (0 : Int) ≤ (i : Int) + (m : Int) := by omega
 have hin : i ≤ n := by omega
 have htn : ((i : Int) + (m : Int)).toNat = i + m := by omega
 have hb2 : ¬ (c = i + m) := by omega
 have hb3 : (i : Int) ≤ (n : Int) + (m : Int) := by omega
 have hb4 : ¬ (c = i) := by omega
 have hcp1 : ∀ ty dc sc,(Builtin.copy_ #[89,89] ty #[.slice (some ⟨b,off + (i + m) * 5,none⟩) (n + m - (i + m)) dc,.slice (some ⟨b,off + i * 5,none⟩) (n + m - i) sc]).run Tryz.prog w.drew = .ok (goInt ((n - i : Nat) : Int)) (w.drew.setCells b (off + (i + m) * 5) (cs.drop (i * 5))) := fun ty dc sc =>
  zq1217 w.drew _ _ ty 121 5 b (off + (i + m) * 5) (n + m - (i + m)) dc ⟨b,off + i * 5,none⟩ (n + m - i) sc (n - i) (cs.drop (i * 5)) Tryz.underlying89 hsz (by simp only [Nat.min_def]; split <;> omega) hdl
   (fun j v hj => by rw [Addr.add_lit,Nat.add_assoc]; exact hcs (i * 5 + j) v (by rwa [zc40] at hj))
   (fun j hj => by rw [Nat.add_assoc]; exact hsp _ (by omega)) (fun j hj => by rw [Nat.add_assoc]; exact hfz _ (by omega)) (fun v hv => h1c v (List.mem_of_mem_drop hv))
 obtain ⟨W1,hW1⟩ : ∃ W1,W1 = w.drew.setCells b (off + (i + m) * 5) (cs.drop (i * 5)) := ⟨_,rfl⟩
 have hsp1 : ∀ k,k < (n + m) * 5 → (W1.cell? ⟨b,off + k,none⟩).isSome = true := fun k hk => by
  rw [hW1]
  exact isSome_setCells b _ _ _ (fun j hj => by rw [Nat.add_assoc]; exact hsp _ (by omega)) _ (hsp k hk)
 have hcp2 : ∀ (W : World),(∀ x,W.cell? x = W1.cell? x) → (∀ x,W.frozen? x = W1.frozen? x) → ∀ ty dc,(Builtin.copy_ #[89,89] ty #[.slice (some ⟨b,off + i * 5,none⟩) (n + m - i) dc,.slice (some ⟨vb,voff,none⟩) m vc]).run Tryz.prog W = .ok (goInt m) (W.setCells b (off + i * 5) vs) := fun W hWc hWf ty dc =>
  zq1217 W _ _ ty 121 5 b (off + i * 5) (n + m - i) dc ⟨vb,voff,none⟩ m vc m vs Tryz.underlying89 hsz (by simp only [Nat.min_def]; split <;> omega) hvl
   (fun j v hj => by
    rw [Addr.add_lit,hWc,hW1,World.cell?_setCells_out b _ _ _ _ (fun h _ => absurd h hvb)]
    exact hvs j v hj)
   (fun j hj => by rw [hWc,Nat.add_assoc]; exact hsp1 _ (by omega)) (fun j hj => by rw [hWf,hW1,World.frozen?_setCells,Nat.add_assoc]; exact hfz _ (by omega)) h1v
 rw [← hW1] at hcp1
 go_enter Tryz.func191,Tryz.ntmps191
 go_wp2_with (simp only [hov])
 go_region_law_o (refine step_copy_runI rfl _ _ 89 89 rfl _ _ (by simp [Act.eval,Act.put]) (by simp [Act.eval,Act.put]) (hcp1 _ _ _) ?_)
 go_wp2_with (at_builtin; refine wpList_copy_runI _ rfl _ _ 89 89 rfl _ _ rfl rfl (hcp2 _ (fun _ => rfl) (fun _ => rfl) _ _) ?_)
 go_ret
 first | exact ⟨rfl,rfl⟩ | exact ⟨rfl,by rw [hW1]⟩
set_option maxHeartbeats 4000000 in
set_option maxRecDepth 100000 in
/-- i < len(s), no room: a new row. -/
theorem zq561 (b off n c i vb voff m vc : Nat) (cs vs : List Value) (z : Value) (hz0 : (Tryz.prog.info? 121).map (·.zero) = some (some z)) (w : World) (hi : i < n) (hm : 0 < m) (hnc : n ≤ c) (hroom : c < n + m) (hbig : (n + m) * 48 ≤ 140737488355328)
  (hcl : cs.length = n * 5) (hvl : vs.length = m * 5)
  (hcs : ∀ j v,cs[j]? = some v → w.cell? ⟨b,off + j,none⟩ = some v)
  (hvs : ∀ j v,vs[j]? = some v → w.cell? ⟨vb,voff + j,none⟩ = some v) (h1c : ∀ v ∈ cs,v.oneCell' = true) (h1v : ∀ v ∈ vs,v.oneCell' = true) :
  Calls Tryz.prog 191 #[.slice (some ⟨b,off,none⟩) n c,.int .i64 i,.slice (some ⟨vb,voff,none⟩) m vc] w fun e w' =>
   e = .returned (.slice (some ⟨w.heap.size,0,none⟩) (n + m) (grownCap w (n + m) c 121)) ∧
   w' = (((w.alloc (.cells ((cs.take (i * 5)).toArray ++ Builtin.zeroCells z.cells (n + m - i) ++ Builtin.zeroCells z.cells (grownCap w (n + m) c 121 - (n + m))) 121)).drew.setCells w.heap.size (i * 5) vs).drew).setCells w.heap.size ((i + m) * 5) (cs.drop (i * 5)) := by
 have u30 := run_underlying Tryz.underlying89
 have z49 := zq1259
 have mixed := zq828
 obtain ⟨i0,hi0,hz⟩ := zc7.1 zq531
 simp only [zc11] at hz
 obtain ⟨hzc,hzs,hzb⟩ := hz
 have hz0 : i0.zero = some z := by rw [hi0] at hz0; simpa using hz0
 have hzc : z.cells.size = 5 := by rw [hz0] at hzc; simpa using hzc
 have hz1 : ¬ ((m : Int) = 0) := by omega
 have hz2 : ¬ ((i : Int) = (n : Int)) := by omega
 have hz3 : (c : Int) < (n : Int) + (m : Int) := by omega
 have hsz : (Tryz.prog.info? 121).map (·.size) = some 5 := by rw [hi0]; simp [hzs]
 have hbw : b < w.heap.size := block_lt_of_cell (hcs 0 _ (zc0 (by omega)))
 have hvw : vb < w.heap.size := block_lt_of_cell (hvs 0 _ (zc0 (by omega)))
 have hkk : (n : Int) + (m : Int) - (i : Int) = ((n + m - i : Nat) : Int) := by omega
 have hik : i + (n + m - i) = n + m := by omega
 have hold : (Builtin.firstCells i0.size i (.slice (some ⟨b,off,none⟩) i c)).run Tryz.prog w.drew = .ok (cs.take (i * 5)).toArray w.drew := by
  rw [hzs]
  exact run_firstCells_some w.drew 5 i ⟨b,off,none⟩ i c (cs.take (i * 5)) (by rw [zc20]; omega) (fun j v hj => by
   rw [Addr.add_lit]
   rw [zc14] at hj
   split at hj
   ·exact hcs j v hj
   ·cases hj)
 have hrz : ∀ ty,(Builtin.append_ #[89,3] ty #[.slice (some ⟨b,off,none⟩) i c,.int .i64 ((n : Int) + (m : Int) - (i : Int))]).run Tryz.prog w =
   .ok (.slice (some ⟨w.heap.size,0,none⟩) (n + m) (grownCap w (n + m) c 121)) (w.drew.alloc (.cells ((cs.take (i * 5)).toArray ++ Builtin.zeroCells z.cells (n + m - i) ++ Builtin.zeroCells z.cells (grownCap w (n + m) c 121 - (n + m))) 121)) := fun ty => by
  have h := Lib.run_append_grow_zeros w 89 3 ty 121 i0 z .i64 .i64 Tryz.underlying89 Tryz.underlying3 hi0 hz0 (some ⟨b,off,none⟩) i c (cs.take (i * 5)) hold (n + m - i) (by omega) (by omega) (by omega) (by omega) (by rw [hzb]; omega) (by rw [hzb,hik]; exact growslice_fits hroom hbig)
  rw [hik] at h
  rw [hkk]
  exact h
 obtain ⟨G,hG⟩ : ∃ G,G = grownCap w (n + m) c 121 := ⟨_,rfl⟩
 obtain ⟨ROW,hROW⟩ : ∃ ROW : Array Value,ROW = (cs.take (i * 5)).toArray ++ Builtin.zeroCells z.cells (n + m - i) ++ Builtin.zeroCells z.cells (G - (n + m)) := ⟨_,rfl⟩
 rw [← hG] at hrz ⊢
 rw [← hROW] at hrz ⊢
 have hRl : (n + m) * 5 ≤ ROW.size := by
  rw [hROW]
  simp [Builtin.zeroCells,hzc]
  omega
 obtain ⟨W1,hW1⟩ : ∃ W1,W1 = w.drew.alloc (.cells ROW 121) := ⟨_,rfl⟩
 rw [← hW1] at hrz
 have hN : ∀ j,j < (n + m) * 5 → (W1.cell? ⟨w.heap.size,j,none⟩).isSome = true := fun j hj => by
  rw [hW1,World.cell?_alloc_at (w := w.drew) ROW _ w.heap.size j rfl,zc46 (by omega)]; rfl
 have hNf : ∀ j,W1.frozen? ⟨w.heap.size,j,none⟩ = false := fun j => by rw [hW1]; exact World.frozen?_alloc_at (w := w.drew) ROW _ w.heap.size j rfl
 have hOb : ∀ j v,w.cell? ⟨b,j,none⟩ = some v → W1.cell? ⟨b,j,none⟩ = some v := fun j v h => by rw [hW1,World.cell?_alloc_past (w := w.drew) _ b j hbw]; exact h
 have hOv : ∀ j v,w.cell? ⟨vb,j,none⟩ = some v → W1.cell? ⟨vb,j,none⟩ = some v := fun j v h => by rw [hW1,World.cell?_alloc_past (w := w.drew) _ vb j hvw]; exact h
 have hcpA : ∀ (W : World),(∀ x,W.cell? x = W1.cell? x) → (∀ x,W.frozen? x = W1.frozen? x) → ∀ ty dc,(Builtin.copy_ #[89,89] ty #[.slice (some ⟨w.heap.size,i * 5,none⟩) (n + m - i) dc,.slice (some ⟨vb,voff,none⟩) m vc]).run Tryz.prog W = .ok (goInt (m : Int)) (W.setCells w.heap.size (i * 5) vs) := fun W hWc hWf ty dc =>
  zq1217 W _ _ ty 121 5 w.heap.size (i * 5) (n + m - i) dc ⟨vb,voff,none⟩ m vc m vs Tryz.underlying89 hsz (by simp only [Nat.min_def]; split <;> omega) hvl
   (fun j v hj => by rw [Addr.add_lit,hWc]; exact hOv _ v (hvs j v hj))
   (fun j hj => by rw [hWc]; exact hN _ (by omega)) (fun j hj => by rw [hWf]; exact hNf _) h1v
 have hGn : n + m ≤ G := by rw [hG]; exact grownCap_ge w _ _ _
 have hG63 : G ≤ 9223372036854775807 := by
  have := grownCap_le_maxLen w (n + m) c 121 (by unfold maxLen; omega)
  rw [← hG] at this
  unfold maxLen at this
  omega
 have hGi : ¬ (G = i) := by omega
 have hGim : ¬ (G = i + m) := by omega
 have hci : ¬ (c = i) := by omega
 have hbN : b ≠ w.heap.size := by omega
 have hdl : (cs.drop (i * 5)).length = (n - i) * 5 := by rw [zc41,hcl]; omega
 have hcpB : ∀ (W : World),(∀ x,W.cell? x = (W1.setCells w.heap.size (i * 5) vs).cell? x) → (∀ x,W.frozen? x = (W1.setCells w.heap.size (i * 5) vs).frozen? x) → ∀ ty dc sc,(Builtin.copy_ #[89,89] ty #[.slice (some ⟨w.heap.size,(i + m) * 5,none⟩) (n + m - (i + m)) dc,.slice (some ⟨b,off + i * 5,none⟩) (n - i) sc]).run Tryz.prog W = .ok (goInt ((n - i : Nat) : Int)) (W.setCells w.heap.size ((i + m) * 5) (cs.drop (i * 5))) := fun W hWc hWf ty dc sc =>
  zq1217 W _ _ ty 121 5 w.heap.size ((i + m) * 5) (n + m - (i + m)) dc ⟨b,off + i * 5,none⟩ (n - i) sc (n - i) (cs.drop (i * 5)) Tryz.underlying89 hsz (by simp only [Nat.min_def]; split <;> omega) hdl
   (fun j v hj => by
    rw [Addr.add_lit,hWc,World.cell?_setCells_out _ _ _ _ _ (fun h _ => absurd h hbN),Nat.add_assoc]
    exact hOb _ v (hcs (i * 5 + j) v (by rwa [zc40] at hj)))
   (fun j hj => by rw [hWc]; exact isSome_setCells _ _ _ _ (fun t ht => hN _ (by omega)) _ (hN _ (by omega)))
   (fun j hj => by rw [hWf,World.frozen?_setCells]; exact hNf _) (fun v hv => h1c v (List.mem_of_mem_drop hv))
 subst hW1
 have hE1 : ∀ x,((w.alloc (.cells ROW 121)).drew).cell? x = (w.drew.alloc (.cells ROW 121)).cell? x := fun x => rfl
 have hE2 : ∀ x,((w.alloc (.cells ROW 121)).drew).frozen? x = (w.drew.alloc (.cells ROW 121)).frozen? x := fun x => rfl
 have hF1 : ∀ x,(((w.alloc (.cells ROW 121)).drew.setCells w.heap.size (i * 5) vs).drew).cell? x = ((w.drew.alloc (.cells ROW 121)).setCells w.heap.size (i * 5) vs).cell? x := fun x => rfl
 have hF2 : ∀ x,(((w.alloc (.cells ROW 121)).drew.setCells w.heap.size (i * 5) vs).drew).frozen? x = ((w.drew.alloc (.cells ROW 121)).setCells w.heap.size (i * 5) vs).frozen? x := fun x => rfl
 have hw1 : IntKind.i64.wrap ((i : Int) + (m : Int)) = (i : Int) + (m : Int) := by rw [IntKind.wrap_i64]; omega
 have hb1 : (0 : Int) ≤ (i : Int) + (m : Int) := by omega
 have hin : i ≤ n := by omega
 have htn : ((i : Int) + (m : Int)).toNat = i + m := by omega
 have hb3 : (i : Int) ≤ (n : Int) := by omega
 clear hkk hik hold hROW hG hRl
 go_enter Tryz.func191,Tryz.ntmps191
 go_wp2_with (first
  | (at_builtin; refine Lib.wpList_append_run _ rfl _ _ _ _ rfl _ _ rfl rfl _ _ (hrz _) ?_)
  | (at_builtin; refine wpList_copy_runI _ rfl _ _ 89 89 rfl _ _ rfl rfl (hcpA _ hE1 hE2 _ _) ?_)
  | (at_builtin; refine wpList_copy_runI _ rfl _ _ 89 89 rfl _ _ rfl rfl (hcpB _ (fun _ => rfl) (fun _ => rfl) _ _ _) ?_))
 go_region_law_o (refine step_copy_runI rfl _ _ 89 89 rfl (.slice (some ⟨w.heap.size,(i + m) * 5,none⟩) (n + m - (i + m)) (G - (i + m))) (.slice (some ⟨b,off + i * 5,none⟩) (n - i) (c - i)) (by simp [Act.eval,Act.put]) (by simp [Act.eval,Act.put]) (hcpB _ hF1 hF2 3 (G - (i + m)) (c - i)) ?_)
 go_wp2
 go_ret
 exact ⟨rfl,rfl⟩
set_option maxHeartbeats 4000000 in
set_option maxRecDepth 100000 in
/-- At the end: whatever append does. -/
theorem zq559 (v : Value) (base : Option Addr) (n c : Nat) (vb vc m : Nat) (v' : Value) (w w' : World) (hm : 0 < m) (hnc : n ≤ c)
  (hrun : ∀ ty,(Builtin.append_ #[89,89] ty #[.slice base n c,.slice (some ⟨vb,0,none⟩) m vc]).run Tryz.prog w = .ok v' w') (hsl : ∃ A N C,v' = .slice A N C) (hnil : base = none → n = 0) :
  Calls Tryz.prog 191 #[.slice base n c,.int .i64 n,.slice (some ⟨vb,0,none⟩) m vc] w fun e w2 => e = .returned v' ∧ w2 = w' := by
 have u30 := run_underlying Tryz.underlying89
 have z49 := zq1259
 have mixed := zq828
 have hz1 : ¬ ((m : Int) = 0) := by omega
 obtain ⟨A,N,C,rfl⟩ := hsl
 go_enter Tryz.func191,Tryz.ntmps191
 cases base with
 | none =>
  have h0 := hnil rfl
  subst h0
  go_wp2_with (at_builtin; refine Lib.wpList_append_run _ rfl _ _ _ _ rfl _ _ rfl rfl _ _ (hrun _) ?_)
  all_goals (go_ret; exact ⟨rfl,rfl⟩)
 | some a =>
  obtain ⟨ab,ao,asp⟩ := a
  go_wp2_with (at_builtin; refine Lib.wpList_append_run _ rfl _ _ _ _ rfl _ _ rfl rfl _ _ (hrun _) ?_)
  all_goals (go_ret; exact ⟨rfl,rfl⟩)
theorem zq558 {arr : Array Value} {n i : Nat} {cs xs : List Value} (hi : i < n) (hcl : cs.length = n * 5) (hxl : xs.length = 5) (hsz : (n + 1) * 5 ≤ arr.size) (h0 : ∀ q,q < i * 5 → arr[q]? = cs[q]?) :
  (zq1228 (zq1228 arr ((i + 1) * 5) (cs.drop (i * 5))) (i * 5) xs).toList.take ((n + 1) * 5) = cs.take (i * 5) ++ xs ++ cs.drop (i * 5) ∧
  (zq1228 (zq1228 arr (i * 5) xs) ((i + 1) * 5) (cs.drop (i * 5))).toList.take ((n + 1) * 5) = cs.take (i * 5) ++ xs ++ cs.drop (i * 5) := by
 have hdl : (cs.drop (i * 5)).length = (n - i) * 5 := by rw [zc41,hcl]; omega
 have hrhs : ∀ q : Nat,(cs.take (i * 5) ++ xs ++ cs.drop (i * 5))[q]? = if q < i * 5 then cs[q]? else if q < (i + 1) * 5 then xs[q - i * 5]? else (cs.drop (i * 5))[q - (i + 1) * 5]? := by
  intro q
  rw [zc48,zc29,zc20,Nat.min_eq_left (by omega)]
  split
  ·rw [zc14,if_pos (by assumption)]
  ·rw [zc29,hxl]
   by_cases hq : q < (i + 1) * 5
   ·rw [if_pos (by omega),if_pos hq]
   ·rw [if_neg (by omega),if_neg hq]
    congr 1
    omega
 constructor
 ·apply List.ext_getElem?
  intro q
  rw [hrhs,zc14]
  by_cases hq : q < (n + 1) * 5
  ·rw [if_pos hq,zc25,zq1229 _ _ _ _ (by rw [zq1230]; omega)]
   by_cases h1 : q < i * 5
   ·rw [if_neg (by omega),if_pos h1,zq1229 _ _ _ _ (by omega),if_neg (by omega),h0 q h1]
   ·rw [if_neg h1]
    by_cases h2 : q < (i + 1) * 5
    ·rw [if_pos (by omega),if_pos h2]
    ·rw [if_neg (by omega),if_neg h2,zq1229 _ _ _ _ (by omega),if_pos (by omega)]
  ·rw [if_neg hq,if_neg (by omega),if_neg (by omega),zc22 (by omega)]
 ·apply List.ext_getElem?
  intro q
  rw [hrhs,zc14]
  by_cases hq : q < (n + 1) * 5
  ·rw [if_pos hq,zc25,zq1229 _ _ _ _ (by rw [zq1230]; omega)]
   by_cases h1 : q < i * 5
   ·rw [if_neg (by omega),if_pos h1,zq1229 _ _ _ _ (by omega),if_neg (by omega),h0 q h1]
   ·rw [if_neg h1]
    by_cases h2 : q < (i + 1) * 5
    ·rw [if_neg (by omega),if_pos h2,zq1229 _ _ _ _ (by omega),if_pos (by omega)]
    ·rw [if_pos (by omega),if_neg h2]
  ·rw [if_neg hq,if_neg (by omega),if_neg (by omega),zc22 (by omega)]
theorem zq562 (base : Nat) (w : World) (v u : Value) (n i : Nat) (cs xs : List Value) (h1 : w.ownsRow base 121 5 v n cs) (h2 : w.ownsRow base 121 5 u 1 xs) (hap : ∀ b,v.ownBlock = some b → u.ownBlock ≠ some b) (hc1 : ∀ x ∈ cs,oneC x = true) (hc2 : ∀ x ∈ xs,oneC x = true)
  (hbase : base ≤ w.heap.size) (hin : i ≤ n) (hbig : n + 1 ≤ 274877906944) :
  Calls Tryz.prog 191 #[v,.int .i64 (i : Int),u] w fun r w' => ∃ v',r = .returned v' ∧ w'.ownsRow base 121 5 v' (n + 1) (cs.take (i * 5) ++ xs ++ cs.drop (i * 5)) ∧ w.grownBy w' v.ownBlock ∧ (∀ b,v'.ownBlock = some b → v.ownBlock = some b ∨ w.heap.size ≤ b) := by
 obtain ⟨i0,hi0,hz⟩ := zc7.1 zq531
 simp only [zc11] at hz
 obtain ⟨hzc,hzs,hzb⟩ := hz
 obtain ⟨z,hz0,hzc⟩ := zc7.1 hzc
 have hcl := h1.1
 have hxl : xs.length = 5 := by have := h2.1; omega
 rcases h2.2 with ⟨_,h0⟩ | ⟨vb,vc,curv,rfl,hvbase,hvheap,hvc,hvcm,hvsz,hvtake⟩
 ·cases h0
 have hvs : ∀ j x,xs[j]? = some x → w.cell? ⟨vb,0 + j,none⟩ = some x := by
  intro j x hj
  rw [Nat.zero_add,zq262 hvheap,← zc25]
  rw [← hvtake,zc14] at hj
  split at hj
  ·exact hj
  ·cases hj
 have h1v : ∀ x ∈ xs,x.oneCell' = true := fun x hx => zq885 (hc2 x hx)
 have h1c : ∀ x ∈ cs,x.oneCell' = true := fun x hx => zq885 (hc1 x hx)
 by_cases hine : i = n
 ·subst hine
  have htd : cs.take (i * 5) ++ xs ++ cs.drop (i * 5) = cs ++ xs := by rw [List.take_of_length_le (by omega),zc18 (by omega),List.append_nil]
  rw [htd]
  have hown5 : w.ownsRow base 121 i0.size v i cs := by rw [hzs]; exact h1
  obtain ⟨v',w',hrun,hown',hgb,hblk⟩ := zq195 (P := Tryz.prog) w base 89 0 121 i0 z Tryz.underlying89 hi0 hz0 (by rw [hzs]; exact hzc) (by omega) v i cs hown5 (some ⟨vb,0,none⟩) 1 vc xs (by rw [hzs]; omega) (by simp)
   (fun ad had j x hj => by
    cases had
    rw [zq82]
    exact hvs j x hj) h1v (by unfold maxLen; omega) (by rw [hzb]; omega) hbase
  have hrun' : ∀ ty,(Builtin.append_ #[89,89] ty #[v,.slice (some ⟨vb,0,none⟩) 1 vc]).run Tryz.prog w = .ok v' w' := fun ty => by
   rw [← hrun]
   rfl
  rw [hzs] at hown'
  have hsl : ∃ A N C,v' = .slice A N C := by
   rcases hown'.2 with ⟨h,_⟩ | ⟨g,cp,cur,h,_⟩
   ·exact ⟨_,_,_,h⟩
   ·exact ⟨_,_,_,h⟩
  have hv : ∃ A c,v = .slice A i c ∧ i ≤ c ∧ (A = none → i = 0) := by
   rcases h1.2 with ⟨h,h0⟩ | ⟨g,cp,cur,h,_,_,hc,_⟩
   ·exact ⟨none,0,by rw [h,h0],by omega,fun _ => h0⟩
   ·exact ⟨_,cp,h,hc,fun h => by cases h⟩
  obtain ⟨A,c,rfl,hc,hnil⟩ := hv
  refine (zq559 (.slice A i c) A i c vb vc 1 v' w w' (by omega) hc hrun' hsl hnil).mono ?_
  rintro e w2 ⟨rfl,rfl⟩
  exact ⟨v',rfl,hown',hgb,hblk⟩
 ·have hi : i < n := by omega
  rcases h1.2 with ⟨_,h0⟩ | ⟨g,cap,cur,rfl,hgbase,hgheap,hnc,hcm,hgsz,hgtake⟩
  ·omega
  have hvbg : vb ≠ g := fun e => hap g rfl (by rw [e]; rfl)
  have hcs : ∀ j x,cs[j]? = some x → w.cell? ⟨g,0 + j,none⟩ = some x := by
   intro j x hj
   rw [Nat.zero_add,zq262 hgheap,← zc25]
   rw [← hgtake,zc14] at hj
   split at hj
   ·exact hj
   ·cases hj
  by_cases hroom : n + 1 ≤ cap
  ·refine (zq564 g 0 n cap i vb 0 1 vc cs xs w hi (by omega) hroom (by unfold maxLen at hcm; omega) hvbg hcl (by omega) hcs
    (fun j hj => by rw [Nat.zero_add,zq262 hgheap,zc46 (by omega)]; rfl) (fun j hj => by simp [World.frozen?,hgheap]) hvs h1c h1v 121 121 curv.size cur.size
    (by simp [World.shape?,hvheap]) (by simp [World.shape?,hgheap]) (by omega) (by simp [World.frozen?,hvheap]) (by simp [World.frozen?,hvheap])).mono ?_
   rintro e w' ⟨rfl,rfl⟩
   have hg0 : w.drew.heap[g]? = some (.cells cur 121 (0,0)) := hgheap
   obtain ⟨a1,a2,a3,a4,a5,a6⟩ := zq1232 w.drew g (0 + (i + 1) * 5) (cs.drop (i * 5)) cur 121 (0,0) hg0
   obtain ⟨b1,b2,b3,b4,b5,b6⟩ := zq1232 _ g (0 + i * 5) xs _ 121 (0,0) a1
   have hdl : (cs.drop (i * 5)).length = (n - i) * 5 := by rw [zc41,hcl]; omega
   refine ⟨_,rfl,⟨?_,.inr ⟨g,cap,_,rfl,hgbase,b1,hroom,hcm,by rw [zq1230,zq1230]; exact hgsz,?_⟩⟩,⟨b4.trans a4,b5.trans a5,b6.trans a6,by rw [b3,a3]; exact zc49 _,fun k hk hne => ?_⟩,fun b hb => .inl hb⟩
   ·simp only [zc24,zc20,hdl,hxl]; omega
   ·rw [Nat.zero_add,Nat.zero_add]
    refine (zq558 hi hcl hxl (by omega) fun q hq => ?_).1
    rw [← hgtake,zc14,if_pos (by omega),zc25]
   ·have hkg : k ≠ g := fun e => hne (by rw [e]; rfl)
    exact (b2 k hkg).trans (a2 k hkg)
  ·refine (zq561 g 0 n cap i vb 0 1 vc cs xs z (by rw [hi0]; simp [hz0]) w hi (by omega) hnc (by omega) (by omega) hcl (by omega) hcs hvs h1c h1v).mono ?_
   rintro e w' ⟨rfl,rfl⟩
   obtain ⟨G,hG⟩ : ∃ G,G = grownCap w (n + 1) cap 121 := ⟨_,rfl⟩
   have hGn : n + 1 ≤ G := by rw [hG]; exact grownCap_ge w _ _ _
   have hG63 : G ≤ maxLen := by rw [hG]; exact grownCap_le_maxLen w (n + 1) cap 121 (by unfold maxLen; omega)
   rw [← hG]
   obtain ⟨ROW,hROW⟩ : ∃ ROW : Array Value,ROW = (cs.take (i * 5)).toArray ++ Builtin.zeroCells z.cells (n + 1 - i) ++ Builtin.zeroCells z.cells (G - (n + 1)) := ⟨_,rfl⟩
   rw [← hROW]
   have hRs : ROW.size = G * 5 := by
    rw [hROW]
    simp [Builtin.zeroCells,hzc]
    omega
   have hR0 : ∀ q,q < i * 5 → ROW[q]? = cs[q]? := fun q hq => by
    rw [hROW,Array.append_assoc,Array.getElem?_append_left (by simp; omega)]
    simp only [List.getElem?_toArray,zc14,if_pos hq]
   have hh : ((w.alloc (.cells ROW 121)).drew).heap[w.heap.size]? = some (.cells ROW 121 (0,0)) := by
    show (w.heap.push _)[w.heap.size]? = _
    exact Array.getElem?_push_size
   obtain ⟨a1,a2,a3,a4,a5,a6⟩ := zq1232 _ w.heap.size (i * 5) xs ROW 121 (0,0) hh
   have a1' : (((w.alloc (.cells ROW 121)).drew.setCells w.heap.size (i * 5) xs).drew).heap[w.heap.size]? = _ := a1
   obtain ⟨b1,b2,b3,b4,b5,b6⟩ := zq1232 _ w.heap.size ((i + 1) * 5) (cs.drop (i * 5)) _ 121 (0,0) a1'
   have hdl : (cs.drop (i * 5)).length = (n - i) * 5 := by rw [zc41,hcl]; omega
   have hold : ∀ k,k < w.heap.size → ((w.alloc (.cells ROW 121)).drew).heap[k]? = w.heap[k]? := fun k hk => by
    show (w.heap.push _)[k]? = _
    rw [Array.getElem?_push,if_neg (by omega)]
   refine ⟨_,rfl,⟨?_,.inr ⟨w.heap.size,G,_,rfl,hbase,b1,hGn,hG63,by rw [zq1230,zq1230]; exact hRs,?_⟩⟩,⟨b4.trans a4,b5.trans a5,b6.trans a6,?_,fun k hk hne => ?_⟩,fun b hb => .inr ?_⟩
   ·simp only [zc24,zc20,hdl,hxl]; omega
   ·exact (zq558 hi hcl hxl (by omega) hR0).2
   ·rw [b3]
    show w.heap.size ≤ ((w.alloc (.cells ROW 121)).drew.setCells w.heap.size (i * 5) xs).heap.size
    rw [a3]
    show w.heap.size ≤ (w.heap.push _).size
    simp
   ·exact ((b2 k (by omega)).trans (a2 k (by omega))).trans (hold k hk)
   ·cases hb
    exact zc49 _
def zq1293 : Con := zq546 .lease 121
theorem zq1294 : TrOk Tryz.prog 191 zq1293 := zq563 .lease 121 zq562
end Go.Proofs.YtafggolijpopeaaGreatDoor
