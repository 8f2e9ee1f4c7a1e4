/-
  Parts: Se Sf Sg Sh Si Sj Sk Ps Ta Tb Ua Ub Uc Sl Ud Ue Tc Yk Ty Hd.
-/
import Derived.Test.YtjolfddpghkabaaGreatRows
import Derived.WalkKit
import Derived.ProofKit
import Derived.Lib.Walk
import Derived.Lib.SliceRun
import Derived.Lib.JoinLaws
import Derived.Lib.AppendZeros
import Derived.Lib.AppendZerosOnto
import Derived.Lib.Overlaps
import Derived.Laws.Externs
import Derived.Laws.IdiomCopy
import Derived.Laws.AppendOwn
import Derived.Shelf.Spec.SlicesInsertGrow
import Derived.Test.YtjolfddpghkabaaGreatZr4
set_option linter.unusedVariables false
set_option linter.unusedSimpArgs false
open List renaming getElem?_eq_getElem → zc0, getElem?_eq_some_iff → zc1, getD_eq_getElem?_getD → zc3, mem_of_getElem? → zc5, getElem?_append_left → zc6, getElem?_take → zc14, all_eq_true → zc17, drop_of_length_le → zc18, length_take → zc20, getElem?_eq_none → zc22, length_append → zc24, take_succ_eq_append_getElem → zc26, mem_cons → zc28, getElem?_append → zc29, mem_iff_getElem? → zc30, mem_append → zc36, not_mem_nil → zc37, mem_singleton → zc38, getElem?_drop → zc39, length_drop → zc40, nil_append → zc42, length_set → zc43, pairwise_cons → zc45
open Bool renaming and_eq_true → zc4, not_true → zc10, false_eq_true → zc16, not_false → zc19
open Option renaming map_eq_some_iff → zc7
open Prod.mk renaming injEq → zc11
open Array renaming getElem?_toList → zc25, getElem?_eq_getElem → zc44
open Int renaming toNat_natCast → zc41
open Nat renaming le_refl → zc47
open Decidable renaming not_not → zc49
noncomputable section
namespace Go.Ma
open Go
theorem zq415 {l : List Ad} (h : l.length ≤ 1048576) : zq1589 l = some (l,()) := by
 unfold zq1589
 rw [zq1463 (zq1488 (by simp [lenL]) (zq989 l) (by unfold lenL; simp; omega)),zc42]
 cases l with
 | nil => exact zq354 _
 | cons a r => rfl
theorem StOk.kept {ps : List Pf} {ks : List (List Ad)} {ls : List Ls} {now : Int} (h : StOk ps ks ls now) {i : Nat} {p : Pf} (hp : ps[i]? = some p) : (ks.getD i []).length ≤ 6 := (zq404.1 (h.pool i p hp)).2.2.1
theorem StOk.llen {ps : List Pf} {ks : List (List Ad)} {ls : List Ls} {now : Int} (h : StOk ps ks ls now) : ls.length ≤ 20 := (zq275 h.all).1
theorem StOk.lchk {ps : List Pf} {ks : List (List Ad)} {ls : List Ls} {now : Int} (h : StOk ps ks ls now) : ∀ x ∈ ls,chkLs x = 0 := (zq275 h.all).2.1
theorem zq1668 {ps : List Pf} {ks : List (List Ad)} {ls : List Ls} {now : Int} (h : StOk ps ks ls now) : zq1670 (ps,ks) ls now = some (((ps,ks),ls,now,()),()) := by
 have hpl := h.plen
 have hkl := h.klen
 have hll := h.llen
 unfold zq1670
 rw [zq417 (by omega),zq332,zq553]
 simp only
 have := zq1087 (step := zq1662) (fun i => (((),(),(),(lenL ps,()),((i : Int),()),()),(ks,ps,ls,((0 : Int),()),(now,()),([] : List Pf),([] : List Ls),ps.take i,ls,([] : List (List Ad)),ks.take i,()))) ps.length
  (fun _ => some (((),(),()),(ks,ps,ls,((0 : Int),()),(now,()),([] : List Pf),([] : List Ls),ps,ls,([] : List (List Ad)),ks,()))) (fun rec i hi hr => ?_) (fun rec => ?_) FUEL 0 (Nat.zero_le _) (zq703 (by omega))
 ·rw [show ((0 : Nat) : Int) = 0 from rfl,List.take_zero,List.take_zero] at this
  rw [this,zq332]
 ·obtain ⟨p,hp⟩ : ∃ e,ps[i]? = some e := ⟨_,zc0 hi⟩
  have hk6 := h.kept hp
  have e1 : ps.take (i + 1) = ps.take i ++ [p] := by rw [zc26 hi,(zc1.1 hp).2]
  have hik : i < ks.length := by omega
  have e2 : ks.take (i + 1) = ks.take i ++ [ks.getD i []] := by
   rw [zc26 hik,zc3,zc0 hik]
   rfl
  have e3 : padL (ps.take i).length (ks.take i) = ks.take i := zq1273 (by simp; omega)
  simp only [zq1662]
  rw [decide_eq_true (show (i : Int) < lenL ps by unfold lenL; omega),zq358,zq1463 (zq753 (by omega) (by unfold lenL; omega)),zq709 hp,zq332,zq707,zq415 (by omega)]
  simp only [zq332,zq553,zq354,e3]
  rw [zq1463 (zq1488 (zq989 _) (zq989 _) (by unfold lenL; simp; omega)),show ((i : Int) + 1) = ((i + 1 : Nat) : Int) by omega,zq1463 (zq747 (by omega) (by omega)),← e1,← e2,hr]
 ·simp only [zq1662]
  rw [decide_eq_false (show ¬ (ps.length : Int) < lenL ps by unfold lenL; omega),zq356,List.take_length,← hkl,List.take_length]
theorem zq1723 (ps : List Pf) (ks : List (List Ad)) {ls : List Ls} (hlen : ls.length ≤ 1048576) (now : Int) (who : ByteArray) : zq209 (ps,ks) ls now who = some (idxI (zq657 (whoP who) ls),()) := by
 unfold zq209
 have := zq750 (step := zq203) ls (whoP who) (fun i => (((),(),(lenL ls,()),((i : Int),()),()),((now,()),ks,ps,ls,(who,()),())))
  (fun o => match o with | some i => Sum.inl ((((i : Int),()),()),((now,()),ks,ps,ls,(who,()),())) | none => Sum.inr ((),((now,()),ks,ps,ls,(who,()),()))) (by omega) (fun rec i x hx hi => ?_) (fun rec => ?_)
 ·rw [show ((0 : Nat) : Int) = 0 from rfl] at this
  simp only
  rw [this,zq332]
  cases zq657 (whoP who) ls <;> rfl
 ·simp only [zq203]
  rw [decide_eq_true (show (i : Int) < lenL ls by unfold lenL; omega),zq358,zq1463 (zq753 (by omega) (by unfold lenL; omega)),zq709 hx,zq332,zq198,zq332,zq1759]
  unfold whoP
  by_cases hc : x.who = who
  ·rw [decide_eq_true hc,zq358,if_pos rfl]
  ·rw [decide_eq_false hc,zq356,if_neg (by simp),show ((i : Int) + 1) = ((i + 1 : Nat) : Int) by omega,zq1463 (zq747 (by omega) (by omega))]
 ·simp only [zq203]
  rw [decide_eq_false (show ¬ (ls.length : Int) < lenL ls by unfold lenL; omega),zq356]
abbrev DPl := List (List Ad) × List Pf × List Ls × (Int × Unit) × (Oq × Unit) × (Int × Unit) × List (List Ad) × List Pf × List Ls × (Ad × Unit) × List (List Ad) × List Pf × List Ls × (Int × Unit) × (Oq × Unit) × (Ad × Unit) × (Pf × Unit) × Unit
abbrev DPl2 := List (List Ad) × List Pf × List Ls × (Int × Unit) × (Oq × Unit) × (Int × Unit) × List (List Ad) × List Pf × List Ls × (Ad × Unit) × List (List Ad) × List Pf × List Ls × (Int × Unit) × (Oq × Unit) × (Ad × Unit) × (Pf × Unit) × (Pf × Unit) × Unit
theorem zq1291 {ps : List Pf} (hp : pfIn ps) (hlen : ps.length ≤ 1048576) (ks : List (List Ad)) (ls : List Ls) (now : Int) (o : Oq) (h1 : o.pf.In) (h2 : chkP o.pf = 0) :
  loopN zq1702 FUEL (((),(),(lenL ps,()),(0,()),()),((ks,ps,ls,(now,()),(o,()),((0 : Int),()),([] : List (List Ad)),([] : List Pf),([] : List Ls),((⟨false,0,0⟩ : Ad),()),ks,ps,ls,(now,()),(o,()),((⟨false,0,0⟩ : Ad),()),(o.pf,()),()) : DPl)) =
   some (match zq657 (fun q => meets q o.pf) ps with
    | some i => Sum.inl ((((i : Int),()),()),((ks,ps,ls,(now,()),(o,()),((0 : Int),()),([] : List (List Ad)),([] : List Pf),([] : List Ls),((⟨false,0,0⟩ : Ad),()),ks,ps,ls,(now,()),(o,()),((⟨false,0,0⟩ : Ad),()),(o.pf,()),()) : DPl))
    | none => Sum.inr ((),((ks,ps,ls,(now,()),(o,()),((0 : Int),()),([] : List (List Ad)),([] : List Pf),([] : List Ls),((⟨false,0,0⟩ : Ad),()),ks,ps,ls,(now,()),(o,()),((⟨false,0,0⟩ : Ad),()),(o.pf,()),()) : DPl))) := by
 have := zq750 (step := zq1702) ps (fun q => meets q o.pf) (fun i => (((),(),(lenL ps,()),((i : Int),()),()),((ks,ps,ls,(now,()),(o,()),((0 : Int),()),([] : List (List Ad)),([] : List Pf),([] : List Ls),((⟨false,0,0⟩ : Ad),()),ks,ps,ls,(now,()),(o,()),((⟨false,0,0⟩ : Ad),()),(o.pf,()),()) : DPl)))
  (fun r => match r with | some i => Sum.inl ((((i : Int),()),()),((ks,ps,ls,(now,()),(o,()),((0 : Int),()),([] : List (List Ad)),([] : List Pf),([] : List Ls),((⟨false,0,0⟩ : Ad),()),ks,ps,ls,(now,()),(o,()),((⟨false,0,0⟩ : Ad),()),(o.pf,()),()) : DPl)) | none => Sum.inr ((),((ks,ps,ls,(now,()),(o,()),((0 : Int),()),([] : List (List Ad)),([] : List Pf),([] : List Ls),((⟨false,0,0⟩ : Ad),()),ks,ps,ls,(now,()),(o,()),((⟨false,0,0⟩ : Ad),()),(o.pf,()),()) : DPl))) (by omega) (fun rec i x hx hi => ?_) (fun rec => ?_)
 ·exact this
 ·obtain ⟨g1,g2⟩ := hp x (zc5 hx)
  simp only [zq1702]
  rw [decide_eq_true (show (i : Int) < lenL ps by unfold lenL; omega),zq358,zq1463 (zq753 (by omega) (by unfold lenL; omega)),zq709 hx,zq332,zq214,zq1336 g1 h1 g2 h2,zq332,zq332]
  simp only [show (over x o.pf || over o.pf x) = meets x o.pf from rfl]
  cases meets x o.pf
  ·rw [show ((i : Int) + 1) = ((i + 1 : Nat) : Int) by omega,zq356,zq1463 (zq747 (by omega) (by omega)),if_neg (by simp)]
  ·rw [zq358,if_pos rfl]
 ·simp only [zq1702]
  rw [decide_eq_false (show ¬ (ps.length : Int) < lenL ps by unfold lenL; omega),zq356]
theorem zq1292 {ps : List Pf} (hp : pfIn ps) (hpw : ps.Pairwise zq295) (hlen : ps.length ≤ 1048576) (ks : List (List Ad)) (ls : List Ls) (now : Int) (o : Oq) (h2 : chkP o.pf = 0) :
  loopN zq1692 FUEL (((),(),(),(lenL ps,()),(0,()),(lenL ps,()),()),((ks,ps,ls,(now,()),(o,()),((0 : Int),()),([] : List (List Ad)),([] : List Pf),([] : List Ls),((⟨false,0,0⟩ : Ad),()),ks,ps,ls,(now,()),(o,()),((⟨false,0,0⟩ : Ad),()),(o.pf,()),(o.pf,()),()) : DPl2)) =
   some (((),(),(),(lenL ps,()),(((posP o.pf ps : Nat) : Int),()),()),((ks,ps,ls,(now,()),(o,()),((0 : Int),()),([] : List (List Ad)),([] : List Pf),([] : List Ls),((⟨false,0,0⟩ : Ad),()),ks,ps,ls,(now,()),(o,()),((⟨false,0,0⟩ : Ad),()),(o.pf,()),(o.pf,()),()) : DPl2)) := by
 refine zq330 (step := zq1692) ps.length (posP o.pf ps) (zq1301 _ _) (by omega)
  (fun i j => (((),(),(),(lenL ps,()),((i : Int),()),((j : Int),()),()),((ks,ps,ls,(now,()),(o,()),((0 : Int),()),([] : List (List Ad)),([] : List Pf),([] : List Ls),((⟨false,0,0⟩ : Ad),()),ks,ps,ls,(now,()),(o,()),((⟨false,0,0⟩ : Ad),()),(o.pf,()),(o.pf,()),()) : DPl2))) _ (fun rec i j hij h3 h4 h5 => ?_) (fun rec => ?_)
 ·obtain ⟨e,he⟩ : ∃ e,ps[(i + j) / 2]? = some e := ⟨_,zc0 (by omega)⟩
  obtain ⟨g1,g2⟩ := hp e (zc5 he)
  have hpos := zq1300 hpw o.pf he
  simp only [zq1692]
  rw [decide_eq_true (show (i : Int) < (j : Int) by omega),zq358,zq1463 (zq747 (by omega) (by omega))]
  simp only [zq737 i j (by omega)]
  rw [zq1463 (zq753 (by omega) (by unfold lenL; omega)),zq709 he,zq332,zq219,zq1342 g2 h2,zq332,zq332]
  by_cases ho : ordP e o.pf < 0
  ·rw [decide_eq_true ho,zq358,if_pos (hpos.1 ho),show (((i + j) / 2 : Nat) : Int) + 1 = (((i + j) / 2 + 1 : Nat) : Int) by omega,zq1463 (zq747 (by omega) (by omega))]
  ·rw [decide_eq_false ho,zq356,if_neg (fun h => ho (hpos.2 h))]
 ·simp only [zq1692]
  rw [decide_eq_false (show ¬ ((posP o.pf ps : Nat) : Int) < ((posP o.pf ps : Nat) : Int) by omega),zq356]
theorem zq292 {α : Type} {q : α → Bool} {l : List α} : l.any q = (zq657 q l).isSome := (zq658 l).symm
theorem zq1419 {ps : List Pf} {ks : List (List Ad)} {ls : List Ls} {now : Int} (h : StOk ps ks ls now) {o : Oq} (ho : o.In) (hf : formO o = 0) (hk : o.kind = 1) : zq1716 (ps,ks) ls now o = some (zq547 ps ks ls now o.pf) := by
 obtain ⟨c1,c2⟩ := zq695 hf hk
 have hpl := h.plen
 have hkl := h.klen
 have hpo := zq1301 o.pf ps
 unfold zq1716 zq547
 rw [zq1659 ho,zq332,hf,decide_eq_true rfl,zc10,zq356,zq1668 h,zq332,decide_eq_true hk,zq358]
 simp only
 rw [zq1291 h.pin (by omega) ks ls now o ho.2.1 c1,zq332,zq292]
 cases hm : zq657 (fun q => meets q o.pf) ps with
 | some i =>
  simp only [sumC,Option.isSome,if_true]
  rw [decide_eq_true (show (i : Int) ≥ 0 by omega),zq358]
  rfl
 | none =>
  simp only [sumC,Option.isSome,zc16,if_false]
  by_cases h3 : ps.length = 3
  ·rw [decide_eq_true (show lenL ps = 3 by unfold lenL; omega),zq358,if_pos h3]; rfl
  ·rw [decide_eq_false (show ¬ lenL ps = 3 by unfold lenL; omega),zq356,if_neg h3,zq1292 h.pin h.pair (by omega) ks ls now o c1,zq332]
   simp only
   have r1 : (decide ((0 : Int) ≤ ((posP o.pf ps : Nat) : Int)) && decide (((posP o.pf ps : Nat) : Int) ≤ lenL ps) && room (lenL ps) 1) = true := by
    rw [decide_eq_true (show (0 : Int) ≤ ((posP o.pf ps : Nat) : Int) by omega),decide_eq_true (show ((posP o.pf ps : Nat) : Int) ≤ lenL ps by unfold lenL; omega),zq1488 (zq989 _) (by omega) (by unfold lenL; omega)]
    rfl
   have r2 : ∃ b,(br (decide (((posP o.pf ps : Nat) : Int) < lenL ps)) (req (zq751 ((posP o.pf ps : Nat) : Int) (lenL ps)) ((geti ps ((posP o.pf ps : Nat) : Int)).bind fun p9 => (zq219 p9 (getL ks ((posP o.pf ps : Nat) : Int)) o.pf).bind fun y10 => some (((posP o.pf ps : Nat) : Int),decide (y10.1 = 0),()))) (some (((posP o.pf ps : Nat) : Int),false,()))) = some (((posP o.pf ps : Nat) : Int),b,()) := by
    by_cases hlt : posP o.pf ps < ps.length
    ·obtain ⟨e,he⟩ : ∃ e,ps[posP o.pf ps]? = some e := ⟨_,zc0 hlt⟩
     obtain ⟨g1,g2⟩ := h.pin e (zc5 he)
     exact ⟨_,by rw [decide_eq_true (show ((posP o.pf ps : Nat) : Int) < lenL ps by unfold lenL; omega),zq358,zq1463 (zq753 (by omega) (by unfold lenL; omega)),zq709 he,zq332,zq219,zq1342 g2 c1,zq332,zq332]⟩
    ·exact ⟨_,by rw [decide_eq_false (show ¬ ((posP o.pf ps : Nat) : Int) < lenL ps by unfold lenL; omega),zq356]⟩
   obtain ⟨b,hb⟩ := r2
   rw [hb,zq332]
   simp only [r1,zq1466,zq553,zq354,zq1273 hkl]
   simp [okS,noAd,insL,putAt]
abbrev DKp := List (List Ad) × List Pf × List Ls × (Int × Unit) × (Oq × Unit) × (Int × Unit) × List (List Ad) × List Pf × List Ls × (Ad × Unit) × List (List Ad) × List Pf × List Ls × (Int × Unit) × (Oq × Unit) × (Ad × Unit) × (Ad × Unit) × (Ad × Unit) × Unit
theorem zq800 {kp : List Ad} (hpw : kp.Pairwise fun a b => ordA a b < 0) (hlen : kp.length ≤ 1048576) (ps : List Pf) (ks : List (List Ad)) (ls : List Ls) (now : Int) (o : Oq) {i : Nat} (hkp : ks.getD i [] = kp) :
  loopN zq1683 FUEL ((((i : Int),()),(),(),(lenL kp,()),(0,()),(lenL kp,()),()),((ks,ps,ls,(now,()),(o,()),((0 : Int),()),([] : List (List Ad)),([] : List Pf),([] : List Ls),((⟨false,0,0⟩ : Ad),()),ks,ps,ls,(now,()),(o,()),((⟨false,0,0⟩ : Ad),()),(o.ad,()),(o.ad,()),()) : DKp)) =
   some ((((i : Int),()),(),(),(lenL kp,()),(((posA o.ad kp : Nat) : Int),()),()),((ks,ps,ls,(now,()),(o,()),((0 : Int),()),([] : List (List Ad)),([] : List Pf),([] : List Ls),((⟨false,0,0⟩ : Ad),()),ks,ps,ls,(now,()),(o,()),((⟨false,0,0⟩ : Ad),()),(o.ad,()),(o.ad,()),()) : DKp)) := by
 refine zq330 (step := zq1683) kp.length (posA o.ad kp) (zq1298 _ _) (by omega)
  (fun a b => ((((i : Int),()),(),(),(lenL kp,()),((a : Int),()),((b : Int),()),()),((ks,ps,ls,(now,()),(o,()),((0 : Int),()),([] : List (List Ad)),([] : List Pf),([] : List Ls),((⟨false,0,0⟩ : Ad),()),ks,ps,ls,(now,()),(o,()),((⟨false,0,0⟩ : Ad),()),(o.ad,()),(o.ad,()),()) : DKp))) _ (fun rec a b hij h3 h4 h5 => ?_) (fun rec => ?_)
 ·obtain ⟨e,he⟩ : ∃ e,kp[(a + b) / 2]? = some e := ⟨_,zc0 (by omega)⟩
  have hpos := zq1297 hpw o.ad he
  simp only [zq1683]
  rw [decide_eq_true (show (a : Int) < (b : Int) by omega),zq358,zq1463 (zq747 (by omega) (by omega))]
  simp only [zq737 a b (by omega),zq707,hkp]
  rw [zq1463 (zq753 (by omega) (by unfold lenL; omega)),zq709 he,zq332,zq260,zq332]
  by_cases ho : ordA e o.ad < 0
  ·rw [decide_eq_true ho,zq358,if_pos (hpos.1 ho),show (((a + b) / 2 : Nat) : Int) + 1 = (((a + b) / 2 + 1 : Nat) : Int) by omega,zq1463 (zq747 (by omega) (by omega))]
  ·rw [decide_eq_false ho,zq356,if_neg (fun h => ho (hpos.2 h))]
 ·simp only [zq1683]
  rw [decide_eq_false (show ¬ ((posA o.ad kp : Nat) : Int) < ((posA o.ad kp : Nat) : Int) by omega),zq356]
theorem zq1238 {a b : Ad} : ordA a b = 0 ↔ a = b := by
 constructor
 ·intro h
  obtain ⟨h1,h2,h3⟩ := (zq1239 a b).2.1 h
  have h1 := zq796 h1
  obtain ⟨av,ah,al⟩ := a
  obtain ⟨bv,bh,bl⟩ := b
  simp only at h1 h2 h3
  rw [h1,h2,h3]
 ·rintro rfl
  exact (zq1239 a a).2.2 ⟨rfl,rfl,rfl⟩
theorem zq1296 {kp : List Ad} (hpw : kp.Pairwise fun a b => ordA a b < 0) (a : Ad) : (match kp[posA a kp]? with | some e => decide (ordA e a = 0) | none => false) = kp.any (fun x => decide (a = x)) := by
 rw [Bool.eq_iff_iff,List.any_eq_true]
 constructor
 ·intro h
  split at h
  ·rename_i e he
   exact ⟨e,zc5 he,by simp [zq1238.1 (of_decide_eq_true h)]⟩
  ·cases h
 ·rintro ⟨x,hx,hax⟩
  have hax := of_decide_eq_true hax
  subst hax
  obtain ⟨i,hi⟩ := zc30.1 hx
  have h1 := zq1297 hpw a hi
  have h0 : ¬ ordA a a < 0 := by rw [zq1238.2 rfl]; omega
  have hle : posA a kp ≤ i := by
   rcases Nat.lt_or_ge i (posA a kp) with h | h
   ·exact absurd (h1.2 h) h0
   ·exact h
  have hil := (zc1.1 hi).1
  have hpos : posA a kp = i := by
   rcases Nat.lt_or_ge (posA a kp) i with h | h
   ·obtain ⟨e,he⟩ : ∃ e,kp[posA a kp]? = some e := ⟨_,zc0 (by omega)⟩
    have h2 := zq1297 hpw a he
    have h3 : ordA e a < 0 := by
     rw [List.pairwise_iff_getElem] at hpw
     have := hpw _ i (by omega) hil h
     rwa [(zc1.1 he).2,(zc1.1 hi).2] at this
    have := h2.1 h3
    omega
   ·omega
  rw [hpos,hi]
  exact decide_eq_true (zq1238.2 rfl)
theorem zq1536 {α : Type} {l : List α} {i : Nat} {x : α} (h : l[i]? = some x) : l.set i x = l := by
 obtain ⟨h1,h2⟩ := zc1.1 h
 rw [← h2]
 exact List.set_getElem_self h1
theorem zq1418 {ps : List Pf} {ks : List (List Ad)} {ls : List Ls} {now : Int} (h : StOk ps ks ls now) {o : Oq} (ho : o.In) (hf : formO o = 0) (hk : o.kind = 2) : zq1716 (ps,ks) ls now o = some (zq543 ps ks ls now o.ad) := by
 have hpl := h.plen
 have hkl := h.klen
 unfold zq1716 zq543
 rw [zq1659 ho,zq332,hf,decide_eq_true rfl,zc10,zq356,zq1668 h,zq332,decide_eq_false (show ¬ o.kind = 1 by omega),zq356,decide_eq_true hk,zq358]
 simp only
 rw [zq1732 h.pin (by omega) ks ls now ho.2.2.1,zq332]
 simp only [zq748]
 cases hx : zq1289 ps o.ad with
 | none => rfl
 | some i =>
  have hil := zq660 hx
  obtain ⟨p,hp⟩ : ∃ e,ps[i]? = some e := ⟨_,zc0 hil⟩
  obtain ⟨k1,k2,k3,k4,k5⟩ := zq404.1 (h.pool i p hp)
  have hik : i < ks.length := by omega
  simp only [Option.isNone,zq356,idxI,zq707]
  have r1 : zq751 (i : Int) (lenL ps) = true := zq753 (by omega) (by unfold lenL; omega)
  have hb := zq800 k5 (by omega) ps ks ls now o (i := i) rfl
  simp only [r1,zq1466,zq709 hp,zq332]
  rw [hb,zq332]
  simp only [zq707]
  generalize hkp : ks.getD i [] = kp at *
  have hpo := zq1298 o.ad kp
  have r2 : (br (decide (((posA o.ad kp : Nat) : Int) < lenL kp)) (req (zq751 ((posA o.ad kp : Nat) : Int) (lenL kp)) ((geti kp ((posA o.ad kp : Nat) : Int)).bind fun p6 => (zq262 p6 o.ad).bind fun y7 => some (((posA o.ad kp : Nat) : Int),decide (y7.1 = 0),()))) (some (((posA o.ad kp : Nat) : Int),false,()))) = some (((posA o.ad kp : Nat) : Int),kp.any (fun x => decide (o.ad = x)),()) := by
   rw [← zq1296 k5]
   by_cases hlt : posA o.ad kp < kp.length
   ·obtain ⟨e,he⟩ : ∃ e,kp[posA o.ad kp]? = some e := ⟨_,zc0 hlt⟩
    rw [decide_eq_true (show ((posA o.ad kp : Nat) : Int) < lenL kp by unfold lenL; omega),zq358,zq1463 (zq753 (by omega) (by unfold lenL; omega)),zq709 he,zq332,zq260,zq332,he]
   ·rw [decide_eq_false (show ¬ ((posA o.ad kp : Nat) : Int) < lenL kp by unfold lenL; omega),zq356,zc22 (by omega)]
  rw [r2,zq332]
  simp only
  cases hany : kp.any (fun x => decide (o.ad = x))
  rotate_left
  ·rfl
  simp only [zq356,zc16,if_false]
  by_cases h6 : kp.length = 6
  ·rw [decide_eq_true (show lenL kp = 6 by unfold lenL; omega),zq358,if_pos h6]; rfl
  rw [decide_eq_false (show ¬ lenL kp = 6 by unfold lenL; omega),zq356,if_neg h6]
  have r3 : (decide ((0 : Int) ≤ ((posA o.ad kp : Nat) : Int)) && decide (((posA o.ad kp : Nat) : Int) ≤ lenL kp) && room (lenL kp) 1) = true := by
   rw [decide_eq_true (show (0 : Int) ≤ ((posA o.ad kp : Nat) : Int) by omega),decide_eq_true (show ((posA o.ad kp : Nat) : Int) ≤ lenL kp by unfold lenL; omega),zq1488 (zq989 _) (by omega) (by unfold lenL; omega)]
   rfl
  simp only [Int.natCast_nonneg,decide_true,Bool.true_and] at r3 ⊢
  simp only [r3,zq1466]
  have e1 : (ks.set i []).length = ps.length := by simp [hkl]
  simp only [seti,outL,zc41,zq1273 e1,outL,zc41,zq1536 hp,List.set_set,insL,okS,noAd,putAt]
theorem zq1265 {ps : List Pf} {ks : List (List Ad)} {ls : List Ls} {now : Int} (h : StOk ps ks ls now) (p : Pf) : Good p (ownL p ls) := by
 obtain ⟨_,a2,a3,_⟩ := zq275 h.all
 exact ⟨fun x hx => h.lin x (List.mem_filter.1 hx).1,fun x hx => a2 x (List.mem_filter.1 hx).1,fun x hx => (List.mem_filter.1 hx).2,((zq308 h.lin).1 a3).filter _,h.who.filter _⟩
theorem zq1267 {ps : List Pf} {ks : List (List Ad)} {ls : List Ls} {now : Int} (h : StOk ps ks ls now) {i : Nat} {p : Pf} (hp : ps[i]? = some p) : chkOf p (ks.getD i []) (ownL p ls) now = 0 :=
 (zq1265 h p).ok (h.pin p (zc5 hp)).1 (h.pool i p hp) h.time
section
variable {A R α : Type}
theorem zq687 {step : (A → Option R) → A → Option R} (b : List α) (q : α → Bool) (mk : Nat → List α → List α → A) (out : List α → List α → R) (hlen : b.length < 9223372036854775808)
  (h : ∀ (rec : A → Option R) (i : Nat) (x : α) (acc acc2 : List α),b[i]? = some x → i < b.length → acc.length ≤ i → acc2.length ≤ i → step rec (mk i acc acc2) = rec (mk (i + 1) (if q x then acc ++ [x] else acc) (if q x then acc2 else acc2 ++ [x])))
  (hend : ∀ (rec : A → Option R) (acc acc2 : List α),step rec (mk b.length acc acc2) = some (out acc acc2)) : loopN step FUEL (mk 0 [] []) = some (out (b.filter q) (b.filter fun x => !q x)) := by
 have := zq1087 (step := step) (fun i => mk i ((b.take i).filter q) ((b.take i).filter fun x => !q x)) b.length (fun _ => some (out (b.filter q) (b.filter fun x => !q x))) (fun rec i hi hr => ?_) (fun rec => ?_) FUEL 0 (Nat.zero_le _) (zq703 (by omega))
 ·simpa using this
 ·obtain ⟨e,he⟩ : ∃ e,b[i]? = some e := ⟨_,zc0 hi⟩
  have hle : ∀ q : α → Bool,((b.take i).filter q).length ≤ i := fun q => Nat.le_trans (List.length_filter_le _ _) (by simp; omega)
  rw [h rec i e _ _ he hi (hle q) (hle _)]
  have ht : b.take (i + 1) = b.take i ++ [e] := by
   rw [zc26 hi,(zc1.1 he).2]
  rw [ht] at hr
  rw [← hr,List.filter_append,List.filter_append]
  cases hq : q e <;> simp [List.filter,hq]
 ·rw [hend,List.take_length]
end
abbrev DGr := List (List Ad) × List Pf × List Ls × (Int × Unit) × (Oq × Unit) × (Int × Unit) × List (List Ad) × List Pf × List Ls × (Ad × Unit) × List (List Ad) × List Pf × List Ls × (Int × Unit) × (Oq × Unit) × (Ad × Unit) × (Ad × Unit) × (Bool × Int × Int × Int × Int × Unit) × List Ls × List Ls × Unit
theorem zq730 (p : Pf) (cp : chkP p = 0) (ps : List Pf) (ks : List (List Ad)) {ls : List Ls} (hl : lsIn ls) (h20 : ls.length ≤ 20) (now : Int) (o : Oq) :
  loopN zq1674 FUEL (((),(o.who,()),(o.n,()),(),(),(),(),(),(lenL ls,()),(0,()),()),((ks,ps,ls,(now,()),(o,()),((0 : Int),()),([] : List (List Ad)),([] : List Pf),([] : List Ls),((⟨false,0,0⟩ : Ad),()),ks,ps,ls,(now,()),(o,()),((⟨false,0,0⟩ : Ad),()),((⟨false,0,0⟩ : Ad),()),(p.ad.v6,p.ad.hi,p.ad.lo,p.bits,o.of_,()),([] : List Ls),([] : List Ls),()) : DGr)) =
   some (((),(o.who,()),(o.n,()),(),(),(),(),()),((ks,ps,ls,(now,()),(o,()),((0 : Int),()),([] : List (List Ad)),([] : List Pf),([] : List Ls),((⟨false,0,0⟩ : Ad),()),ks,ps,ls,(now,()),(o,()),((⟨false,0,0⟩ : Ad),()),((⟨false,0,0⟩ : Ad),()),(p.ad.v6,p.ad.hi,p.ad.lo,p.bits,o.of_,()),ownL p ls,othL p ls,()) : DGr)) := by
 obtain ⟨b1,b2⟩ := zq401 cp
 refine zq687 (step := zq1674) ls (fun x => holds p x.ad) (fun i a b => (((),(o.who,()),(o.n,()),(),(),(),(),(),(lenL ls,()),((i : Int),()),()),((ks,ps,ls,(now,()),(o,()),((0 : Int),()),([] : List (List Ad)),([] : List Pf),([] : List Ls),((⟨false,0,0⟩ : Ad),()),ks,ps,ls,(now,()),(o,()),((⟨false,0,0⟩ : Ad),()),((⟨false,0,0⟩ : Ad),()),(p.ad.v6,p.ad.hi,p.ad.lo,p.bits,o.of_,()),a,b,()) : DGr)))
  (fun a b => (((),(o.who,()),(o.n,()),(),(),(),(),()),((ks,ps,ls,(now,()),(o,()),((0 : Int),()),([] : List (List Ad)),([] : List Pf),([] : List Ls),((⟨false,0,0⟩ : Ad),()),ks,ps,ls,(now,()),(o,()),((⟨false,0,0⟩ : Ad),()),((⟨false,0,0⟩ : Ad),()),(p.ad.v6,p.ad.hi,p.ad.lo,p.bits,o.of_,()),a,b,()) : DGr))) (by omega) (fun rec i x a b hx hi ha hb => ?_) (fun rec a b => ?_)
 ·simp only [zq1674]
  rw [decide_eq_true (show (i : Int) < lenL ls by unfold lenL; omega),zq358,zq1463 (zq753 (by omega) (by unfold lenL; omega)),zq709 hx,zq332,zq1324 (p := p) b1 b2 (hl x (zc5 hx)).1,zq332]
  rw [show ((i : Int) + 1) = ((i + 1 : Nat) : Int) by omega]
  cases holds p x.ad
  ·rw [zq356,zq1463 (zq1488 (zq989 _) (zq989 _) (by unfold lenL; simp; omega)),zq1463 (zq747 (by omega) (by omega))]
   simp
  ·rw [zq358,zq1463 (zq1488 (zq989 _) (zq989 _) (by unfold lenL; simp; omega)),zq1463 (zq747 (by omega) (by omega))]
   simp
 ·simp only [zq1674]
  rw [decide_eq_false (show ¬ (ls.length : Int) < lenL ls by unfold lenL; omega),zq356]
end Go.Ma
namespace Go.Ma
open Go
theorem zq729 {ps : List Pf} {ks : List (List Ad)} {ls : List Ls} {now : Int} (h : StOk ps ks ls now) {i : Nat} {p : Pf} (hp : ps[i]? = some p) {who : ByteArray} (hs : strIn who) (hw : whoOk who = true) {ttl : Int} (ht : betw ttl 1 500 = true)
  (hr : ¬ (zq728 p (ks.getD i []) ls who now ttl).2.2.1 = false) : Given p (ks.getD i []) (ownL p ls) who now (now + ttl) (zq728 p (ks.getD i []) ls who now ttl).1 (zq728 p (ks.getD i []) ls who now ttl).2.1 := by
 have hg : zq727 p (ks.getD i []) (ownL p ls) who now ttl = ((zq728 p (ks.getD i []) ls who now ttl).1,(zq728 p (ks.getD i []) ls who now ttl).2.1,0,()) := by
  unfold zq727
  unfold zq728 at hr ⊢
  rw [if_neg (fun hh => hh (zq1267 h hp)),if_neg (by simp [hw]),if_neg (by simp [ht]),if_neg hr]
 exact (zq714 (h.pin p (zc5 hp)).1 (zq1265 h p).ins hs hg).2.2
theorem zq297 : ∀ {l : List Ls},(l.Pairwise fun x y => x.ad ≠ y.ad) → zq294 l = true
 | [],_ => rfl
 | x :: r,h => by
  obtain ⟨h1,h2⟩ := zc45.1 h
  simp only [zq294,zc4,zc17,decide_eq_true_eq]
  exact ⟨fun y hy => Ne.symm (h1 y hy),zq297 h2⟩
theorem zq307 {l : List Ls} (h : l.Pairwise fun x y => rank x.ad < rank y.ad) : l.Pairwise fun x y => x.ad ≠ y.ad := h.imp fun hab e => by rw [e] at hab; omega
theorem zq1120 {p : Pf} {m b : List Ls} (hm : m.Pairwise fun x y => x.ad ≠ y.ad) (hb : b.Pairwise fun x y => x.ad ≠ y.ad) (h1 : ∀ x ∈ m,holds p x.ad = true) (h2 : ∀ x ∈ b,holds p x.ad = false) : (m ++ b).Pairwise fun x y => x.ad ≠ y.ad := by
 rw [List.pairwise_append]
 exact ⟨hm,hb,fun x hx y hy e => by
  have e1 := h1 x hx
  rw [e,h2 y hy] at e1
  cases e1⟩
theorem zq1248 {ps : List Pf} {ks : List (List Ad)} {ls : List Ls} {now : Int} (h : StOk ps ks ls now) (p : Pf) : (othL p ls).Pairwise fun x y => rank x.ad < rank y.ad := ((zq308 h.lin).1 (zq275 h.all).2.2.1).filter _
theorem zq1249 {p : Pf} {ls : List Ls} : ∀ x ∈ othL p ls,holds p x.ad = false := fun x hx => by simpa using (List.mem_filter.1 hx).2
theorem zq1119 {ps : List Pf} {ks : List (List Ad)} {ls : List Ls} {now : Int} (h : StOk ps ks ls now) {p : Pf} {kp : List Ad} {l : List Ls} {who : ByteArray} {u : Int} {m : List Ls} {a : Ad} (g : Given p kp l who now u m a) (hlen : m.length + (othL p ls).length ≤ 20) : zq1634 (m ++ othL p ls) = true := by
 unfold zq1634
 have hne : (m ++ othL p ls).isEmpty = false := by
  have := g.mine
  cases m with
  | nil => cases this
  | cons x r => rfl
 rw [hne,zq1488 (zq989 _) (by omega) (by unfold lenL; simp; omega),zq297 (zq1120 (zq307 g.good.asc) (zq307 (zq1248 h p)) g.good.held zq1249)]
 rfl
theorem zq1417 {ps : List Pf} {ks : List (List Ad)} {ls : List Ls} {now : Int} (h : StOk ps ks ls now) {o : Oq} (ho : o.In) (hf : formO o = 0) (hk : o.kind = 3) : zq1716 (ps,ks) ls now o = some (zq542 ps ks ls now o.who o.of_ o.n) := by
 obtain ⟨g1,g2⟩ := zq692 hf hk
 have hw := zq697 hf (.inl hk)
 obtain ⟨o1,o2⟩ := zq329.1 g1
 obtain ⟨n1,n2⟩ := zq329.1 g2
 obtain ⟨t1,t2⟩ := zq329.1 h.time
 have hpl := h.plen
 have hkl := h.klen
 have hll := h.llen
 obtain ⟨k,hk'⟩ : ∃ k : Nat,o.of_ = (k : Int) := ⟨o.of_.toNat,by omega⟩
 unfold zq1716 zq542
 rw [zq1659 ho,zq332,hf,decide_eq_true rfl,zc10,zq356,zq1668 h,zq332,decide_eq_false (show ¬ o.kind = 1 by omega),zq356,decide_eq_false (show ¬ o.kind = 2 by omega),zq356,decide_eq_true hk,zq358]
 simp only
 rw [hk',zc41]
 by_cases hkp : k < ps.length
 rotate_left
 ·rw [decide_eq_true (show (k : Int) ≥ lenL ps by unfold lenL; omega),zq358,zc22 (by omega)]; rfl
 obtain ⟨p,hp⟩ : ∃ e,ps[k]? = some e := ⟨_,zc0 hkp⟩
 obtain ⟨pin,cp⟩ := h.pin p (zc5 hp)
 obtain ⟨b1,b2⟩ := zq401 cp
 rw [decide_eq_false (show ¬ (k : Int) ≥ lenL ps by unfold lenL; omega),zq356,zq1463 (zq753 (by omega) (by unfold lenL; omega)),zq709 hp,zq332,zq1723 ps ks (by omega) now o.who,zq332,hp]
 simp only
 have haw : (br (decide (idxI (zq657 (whoP o.who) ls) ≥ 0)) (req (zq751 (idxI (zq657 (whoP o.who) ls)) (lenL ls)) (req (zq751 (idxI (zq657 (whoP o.who) ls)) (lenL ls)) ((geti ls (idxI (zq657 (whoP o.who) ls))).bind fun p5 => (zq1326 p p5.ad).bind fun y6 => some (!y6.1)))) (some false)) = some (awayB p ls o.who) := by
  unfold awayB
  rw [zq749]
  cases hw : zq657 (whoP o.who) ls with
  | none => rfl
  | some i =>
   have hil := zq660 hw
   obtain ⟨x,hx⟩ : ∃ e,ls[i]? = some e := ⟨_,zc0 hil⟩
   have r1 : zq751 (i : Int) (lenL ls) = true := zq753 (by omega) (by unfold lenL; omega)
   simp only [idxI,hx,Option.isSome]
   rw [zq358,zq1463 r1,zq1463 r1,zq709 hx,zq332,zq1324 b1 b2 (h.lin x (zc5 hx)).1,zq332]
 rw [haw,zq332]
 cases awayB p ls o.who
 rotate_left
 ·rfl
 simp only [zq356,zc16,if_false]
 have hsp := zq730 p cp ps ks h.lin hll now o
 rw [hk'] at hsp
 rw [hsp,zq332,zq553]
 simp only [zq707]
 have hok := zq399 (zq1267 h hp)
 have hrw := zq958 (p := p) pin (kp := ks.getD k []) (zq1265 h p).ins (now := now) (ttl := o.n) hok.1 hok.2.1 (by omega) (by omega) o.who
 rw [show (⟨(⟨p.ad.v6,p.ad.hi,p.ad.lo⟩ : Ad),p.bits⟩ : Pf) = p from rfl,hrw,zq332]
 show br (!(zq728 p (ks.getD k []) ls o.who now o.n).2.2.1) _ _ = _
 cases hr : (zq728 p (ks.getD k []) ls o.who now o.n).2.2.1
 ·rfl
 have gv := zq729 h hp ho.2.2.2.1 hw g2 (by rw [hr]; simp)
 unfold zq728 at gv ⊢
 simp only [zc10,zq356,Bool.true_eq_false,if_false]
 have hml := gv.good.len pin cp (zq405 (h.pool k p hp)).2.1
 have hol : (othL p ls).length ≤ 20 := Nat.le_trans (List.length_filter_le _ _) hll
 generalize hR : rawOf p (ks.getD k []) (live (ownL p ls) now) o.who (now + o.n) = r at *
 rw [zq1463 (zq747 (by unfold lenL; omega) (by unfold lenL; omega))]
 by_cases h20 : r.1.length + (othL p ls).length > 20
 ·rw [decide_eq_true (show lenL r.1 + lenL (othL p ls) > 20 by unfold lenL; omega),zq358,if_pos h20]; rfl
 ·rw [decide_eq_false (show ¬ lenL r.1 + lenL (othL p ls) > 20 by unfold lenL; omega),zq356,if_neg h20,zq1463 (zq1488 (zq989 _) (zq989 _) (by unfold lenL; omega)),zq1463 (zq1119 h gv (by omega))]
  rfl
theorem zq1416 {ps : List Pf} {ks : List (List Ad)} {ls : List Ls} {now : Int} (h : StOk ps ks ls now) {o : Oq} (ho : o.In) (hf : formO o = 0) (hk : o.kind = 4) : zq1716 (ps,ks) ls now o = some (zq541 ps ks ls now o.who) := by
 have hll := h.llen
 unfold zq1716 zq541
 rw [zq1659 ho,zq332,hf,decide_eq_true rfl,zc10,zq356,zq1668 h,zq332,decide_eq_false (show ¬ o.kind = 1 by omega),zq356,decide_eq_false (show ¬ o.kind = 2 by omega),zq356,decide_eq_false (show ¬ o.kind = 3 by omega),zq356,decide_eq_true hk,zq358]
 simp only
 rw [zq1723 ps ks (by omega) now o.who,zq332]
 simp only [zq748]
 cases hw : zq657 (whoP o.who) ls with
 | none => rfl
 | some i =>
  have hil := zq660 hw
  obtain ⟨x,hx⟩ : ∃ e,ls[i]? = some e := ⟨_,zc0 hil⟩
  have r1 : zq751 (i : Int) (lenL ls) = true := zq753 (by omega) (by unfold lenL; omega)
  have r2 : (decide ((0 : Int) ≤ (i : Int)) && decide ((i : Int) ≤ (i : Int) + 1) && decide ((i : Int) + 1 ≤ lenL ls)) = true := by
   rw [decide_eq_true (show (0 : Int) ≤ (i : Int) by omega),decide_eq_true (show (i : Int) ≤ (i : Int) + 1 by omega),decide_eq_true (show (i : Int) + 1 ≤ lenL ls by unfold lenL; omega)]
   rfl
  have e1 : ((i : Int) + 1).toNat = i + 1 := by omega
  simp only [Option.isNone,zq356]
  rw [show idxI (some i) = (i : Int) from rfl,zq1463 r1,zq1463 r1,zq709 hx,zq332,zq1463 (zq747 (by omega) (by omega)),zq1463 r2,hx]
  simp only [okS,delL,e1,zc41]
theorem zq1420 {ps : List Pf} {ks : List (List Ad)} {ls : List Ls} {now : Int} (h : StOk ps ks ls now) {o : Oq} (ho : o.In) (hf : formO o = 0) (hk : o.kind = 5) : zq1716 (ps,ks) ls now o = some (zq548 ps ks ls now o.n) := by
 have hll := h.llen
 unfold zq1716 zq548
 rw [zq1659 ho,zq332,hf,decide_eq_true rfl,zc10,zq356,zq1668 h,zq332,decide_eq_false (show ¬ o.kind = 1 by omega),zq356,decide_eq_false (show ¬ o.kind = 2 by omega),zq356,decide_eq_false (show ¬ o.kind = 3 by omega),zq356,decide_eq_false (show ¬ o.kind = 4 by omega),zq356]
 simp only
 by_cases hn : o.n < now
 ·rw [decide_eq_true hn,zq358,if_pos hn]; rfl
 ·rw [decide_eq_false hn,zq356,if_neg hn,zq924 (by omega),zq332]; rfl
theorem zq1714 {ps : List Pf} {ks : List (List Ad)} {ls : List Ls} {now : Int} (h : StOk ps ks ls now) {o : Oq} (ho : o.In) : zq1716 (ps,ks) ls now o = some (doOf ps ks ls now o) := by
 unfold doOf
 by_cases hf : formO o = 0
 rotate_left
 ·rw [if_pos hf]
  unfold zq1716
  rw [zq1659 ho,zq332,decide_eq_false hf,zc19,zq358]
  rfl
 rw [if_neg (fun hh => hh hf)]
 have hk := zq694 hf
 by_cases k1 : o.kind = 1
 ·rw [if_pos k1,zq1419 h ho hf k1]
 by_cases k2 : o.kind = 2
 ·rw [if_neg k1,if_pos k2,zq1418 h ho hf k2]
 by_cases k3 : o.kind = 3
 ·rw [if_neg k1,if_neg k2,if_pos k3,zq1417 h ho hf k3]
 by_cases k4 : o.kind = 4
 ·rw [if_neg k1,if_neg k2,if_neg k3,if_pos k4,zq1416 h ho hf k4]
 ·rw [if_neg k1,if_neg k2,if_neg k3,if_neg k4,zq1420 h ho hf (by omega)]
end Go.Ma
namespace Go.Ma
open Go
theorem zq1113 {p : Pf} (cp : chkP p = 0) : meets p p = true := by unfold meets; rw [zq1256 cp]; rfl
theorem zq267 {ps : List Pf} (hpw : ps.Pairwise zq295) {p : Pf} {i : Nat} {x : Pf} (hx : ps[i]? = some x) (hne : x ≠ p) : decide (ordP p x < 0) = decide (posP p ps ≤ i) := by
 have h1 := zq1300 hpw p hx
 refine decide_eq_decide.2 ⟨fun h => ?_,fun h => ?_⟩
 ·rcases Nat.lt_or_ge i (posP p ps) with hlt | hge
  ·have := zq1245 h (h1.2 hlt)
   rw [zq1244] at this
   omega
  ·exact hge
 ·have h2 : ¬ ordP x p < 0 := fun hh => by have := h1.1 hh; omega
  by_cases h3 : ordP p x < 0
  ·exact h3
  ·exfalso
   apply hne
   rw [zq1242] at h2 h3
   have hv := zq796 (v := x.ad.v6) (w := p.ad.v6) (by omega)
   obtain ⟨⟨xv,xh,xl⟩,xb⟩ := x
   obtain ⟨⟨pv,ph,pl⟩,pb⟩ := p
   simp only at hv h2 h3 ⊢
   have e1 : xh = ph := by omega
   have e2 : xl = pl := by omega
   have e3 : xb = pb := by omega
   rw [hv,e1,e2,e3]
theorem zq1241 {a b : Ad} (h : ¬ ordA a b < 0) (hne : a ≠ b) : ordA b a < 0 := by
 by_cases h2 : ordA b a < 0
 ·exact h2
 ·exfalso
  apply hne
  rw [← zq1238]
  have h1 := (zq1239 a b).1
  have h3 := (zq1239 b a).1
  have := (zq1239 a b).2
  rw [h1] at h
  rw [h3] at h2
  exact this.2 (by omega)
end Go.Ma
namespace Go.Ma
open Go
theorem zq230 (a b : Ad) : adLt a b = decide (ordA a b < 0) := by
 rw [Bool.eq_iff_iff,zq226,decide_eq_true_iff,(zq1239 a b).1]
 unfold kV
 cases a.v6 <;> cases b.v6 <;> simp
theorem oth_in {p : Pf} {ls : List Ls} (h : lsIn ls) : lsIn (othL p ls) := fun x hx => h x (List.mem_filter.1 hx).1
end Go.Ma
namespace Go.Ma
open Go
def fitS (ps : List Pf) (ks : List (List Ad)) (ls : List Ls) : Prop := ps.length < 9223372036854775808 ∧ (∀ i,(ks.getD i []).length < 9223372036854775808) ∧ ls.length < 9223372036854775808
theorem fit_no : fitS ([] : List Pf) ([] : List (List Ad)) ([] : List Ls) := ⟨by decide,fun i => by simp,by decide⟩
theorem zq1756 : strIn ByteArray.empty := by unfold strIn maxLen; decide
theorem zq1151 : (⟨false,0,0⟩ : Ad).In := ⟨⟨by decide,by decide⟩,by decide,by decide⟩
theorem zq1153 : (⟨⟨false,0,0⟩,0⟩ : Pf).In := ⟨zq1151,by decide,by decide⟩
def sP : List Pf := [⟨⟨false,0,8⟩,30⟩]
def sK : List (List Ad) := [[⟨false,0,8⟩]]
def sL : List Ls := [⟨⟨false,0,9⟩,⟨#[120]⟩,10⟩]
theorem sc0 : chkS [] [] [] 0 = 0 := by decide +kernel
theorem zq1280 : ∀ p ∈ ([] : List Pf),p.In := fun p hp => by cases hp
theorem zq812 : kpIn ([] : List (List Ad)) := fun p hp => by cases hp
theorem zq544 {ps : List Pf} {ks : List (List Ad)} {ls : List Ls} {now : Int} {o : Oq} : (doOf ps ks ls now o).2.2.1 ≠ 0 → doOf ps ks ls now o = errS (doOf ps ks ls now o).2.2.1 := by
 have he : ∀ e : Int,errS e = errS (errS e).2.2.1 := fun _ => rfl
 have ho : ∀ (ps : List Pf) (ks : List (List Ad)) (ls : List Ls) (now : Int) (a : Ad),(okS ps ks ls now a).2.2.1 ≠ 0 → okS ps ks ls now a = errS (okS ps ks ls now a).2.2.1 := fun _ _ _ _ _ h => absurd rfl h
 unfold doOf
 split
 ·exact fun _ => he _
 split
 ·unfold zq547
  split
  ·exact fun _ => he _
  split
  ·exact fun _ => he _
  ·exact ho _ _ _ _ _
 split
 ·unfold zq543
  split
  ·exact fun _ => he _
  split
  ·exact fun _ => he _
  split
  ·exact fun _ => he _
  ·exact ho _ _ _ _ _
 split
 ·unfold zq542
  split
  ·exact fun _ => he _
  split
  ·exact fun _ => he _
  split
  ·exact fun _ => he _
  split
  ·exact fun _ => he _
  ·exact ho _ _ _ _ _
 split
 ·unfold zq541
  split
  ·exact fun _ => he _
  split
  ·exact ho _ _ _ _ _
  ·exact fun _ => he _
 ·unfold zq548
  split
  ·exact fun _ => he _
  ·exact ho _ _ _ _ _
end Go.Ma
namespace Go.Ma
open Go
section
variable {α : Type}
theorem zq1116 {l : List α} {n : Nat} {x y : α} : y ∈ putAt l n x ↔ y ∈ l ∨ y = x := by
 unfold putAt
 conv => rhs; rw [← List.take_append_drop n l]
 simp only [zc36,zc28]
 constructor
 ·rintro (h | h | h)
  ·exact .inl (.inl h)
  ·exact .inr h
  ·exact .inl (.inr h)
 ·rintro ((h | h) | h)
  ·exact .inl h
  ·exact .inr (.inr h)
  ·exact .inr (.inl h)
theorem zq1368 {l : List α} {n : Nat} {x : α} : (putAt l n x).length = l.length + 1 := by
 unfold putAt
 have := congrArg List.length (List.take_append_drop n l)
 simp only [zc24,List.length_cons] at this ⊢
 omega
theorem zq1367 {l : List α} {n : Nat} (hn : n ≤ l.length) (x : α) (i : Nat) : (putAt l n x)[i]? = if i < n then l[i]? else if i = n then some x else l[i - 1]? := zq783 hn x i
theorem zq1369 {R : α → α → Prop} {l : List α} {n : Nat} {x : α} (h : l.Pairwise R) (h1 : ∀ i y,l[i]? = some y → i < n → R y x) (h2 : ∀ i y,l[i]? = some y → n ≤ i → R x y) : (putAt l n x).Pairwise R := by
 unfold putAt
 have hs : (l.take n ++ l.drop n).Pairwise R := by rw [List.take_append_drop]; exact h
 obtain ⟨a1,a2,a3⟩ := List.pairwise_append.1 hs
 refine List.pairwise_append.2 ⟨a1,zc45.2 ⟨fun y hy => ?_,a2⟩,fun y hy z hz => ?_⟩
 ·obtain ⟨i,hi⟩ := zc30.1 hy
  rw [zc39] at hi
  exact h2 _ y hi (by omega)
 ·rcases zc28.1 hz with rfl | hz
  ·obtain ⟨i,hi⟩ := zc30.1 hy
   rw [zc14] at hi
   split at hi
   ·exact h1 i y hi (by assumption)
   ·cases hi
  ·exact a3 y hy z hz
end
theorem zq705 {l : List (List Ad)} {n : Nat} (hn : n ≤ l.length) (x : List Ad) (i : Nat) : (putAt l n x).getD i [] = if i < n then l.getD i [] else if i = n then x else l.getD (i - 1) [] := by
 simp only [zc3,zq1367 hn]
 split
 ·rfl
 split <;> rfl
theorem zq1177 {ps : List Pf} {ks : List (List Ad)} {ls : List Ls} {now : Int} (h : StOk ps ks ls now) {p : Pf} (hp : p.In) (c1 : chkP p = 0) (c2 : ((wid p.ad.v6 : Nat) : Int) - p.bits ≤ 4) (hno : ps.any (fun q => meets q p) = false) (h3 : ps.length ≠ 3) :
  StOk (putAt ps (posP p ps) p) (putAt ks (posP p ps) []) ls now := by
 have hpl := h.plen
 have hkl := h.klen
 have hle := zq1301 p ps
 have hno' : ∀ q ∈ ps,meets q p = false := fun q hq => by
  rw [List.any_eq_false] at hno
  simpa using hno q hq
 refine ⟨fun q hq => ?_,fun k hk => ?_,h.lin,by rw [zq1368,zq1368,hkl],by rw [zq1368]; omega,fun i q hq => ?_,?_,h.time,h.all,fun x hx => ?_,h.upto,h.who⟩
 ·rcases zq1116.1 hq with hq | rfl
  ·exact h.pin q hq
  ·exact ⟨hp,c1⟩
 ·rcases zq1116.1 hk with hk | rfl
  ·exact h.kin k hk
  ·exact fun a ha => by cases ha
 ·rw [zq1367 hle] at hq
  rw [zq705 (by omega)]
  split
  ·rename_i hi; rw [if_pos hi] at hq; exact h.pool i q hq
  ·rename_i hi
   rw [if_neg hi] at hq
   split
   ·rename_i he
    rw [if_pos he] at hq
    injection hq with hq
    subst hq
    exact zq404.2 ⟨c1,c2,by simp,(fun a ha => by cases ha),List.Pairwise.nil⟩
   ·rename_i he
    rw [if_neg he] at hq
    exact h.pool (i - 1) q hq
 ·refine zq1369 h.pair (fun i y hy hi => ⟨(zq1300 h.pair p hy).2 hi,hno' y (zc5 hy)⟩) (fun i y hy hi => ?_)
  have hne : y ≠ p := fun e => by have := hno' y (zc5 hy); rw [e,zq1113 c1] at this; cases this
  have := zq267 h.pair hy hne
  rw [decide_eq_true hi] at this
  exact ⟨of_decide_eq_true this,by rw [zq1110]; exact hno' y (zc5 hy)⟩
 ·obtain ⟨q,hq,hh⟩ := h.has x hx
  exact ⟨q,zq1116.2 (.inl hq),hh⟩
theorem zq1176 {ps : List Pf} {ks : List (List Ad)} {ls : List Ls} {now : Int} (h : StOk ps ks ls now) {a : Ad} (ha : a.In) (ca : chkA a = 0) {i : Nat} (hi : zq1289 ps a = some i) (hno : (ks.getD i []).any (fun x => decide (a = x)) = false) (h6 : (ks.getD i []).length ≠ 6) :
  StOk ps (ks.set i (putAt (ks.getD i []) (posA a (ks.getD i [])) a)) ls now := by
 have hkl := h.klen
 obtain ⟨p,hp,hh,_⟩ := zq662 hi
 have hil := zq660 hi
 obtain ⟨k1,k2,k3,k4,k5⟩ := zq404.1 (h.pool i p hp)
 have hne : ∀ x ∈ ks.getD i [],a ≠ x := fun x hx e => by
  rw [List.any_eq_false] at hno
  exact hno x hx (decide_eq_true e)
 have hkin := kp_at h.kin i
 have hget : ∀ j,(ks.set i (putAt (ks.getD i []) (posA a (ks.getD i [])) a)).getD j [] = if j = i then putAt (ks.getD i []) (posA a (ks.getD i [])) a else ks.getD j [] := fun j => by
  rw [zc3]
  by_cases hj : j = i
  ·subst hj
   rw [List.getElem?_set_self (by omega),if_pos rfl]; rfl
  ·rw [List.getElem?_set_ne (by omega),if_neg hj,zc3]
 refine ⟨h.pin,fun k hk => ?_,h.lin,by rw [zc43,hkl],h.plen,fun j q hq => ?_,h.pair,h.time,h.all,h.has,h.upto,h.who⟩
 ·rcases List.mem_or_eq_of_mem_set hk with hk | rfl
  ·exact h.kin k hk
  ·intro b hb
   rcases zq1116.1 hb with hb | rfl
   ·exact hkin b hb
   ·exact ha
 ·rw [hget]
  split
  ·rename_i hj
   subst hj
   rw [hp] at hq
   injection hq with hq
   subst hq
   refine zq404.2 ⟨k1,k2,by rw [zq1368]; omega,fun b hb => ?_,?_⟩
   ·rcases zq1116.1 hb with hb | rfl
    ·exact k4 b hb
    ·exact ⟨ca,hh⟩
   ·exact zq1369 k5 (fun n y hy hn => (zq1297 k5 a hy).2 hn) (fun n y hy hn => zq1241 (fun hlt => by have := (zq1297 k5 a hy).1 hlt; omega) (Ne.symm (hne y (zc5 hy))))
  ·exact h.pool j q hq
theorem zq274 {l : List Ls} (hin : lsIn l) (h20 : l.length ≤ 20) (hc : ∀ x ∈ l,chkLs x = 0) (ha : l.Pairwise fun x y => rank x.ad < rank y.ad) {now : Int} (ht : betw now 0 9999 = true) : allC l now = 0 := by
 unfold allC
 rw [if_neg (by omega),if_neg (fun hh => hh (zq395 hc)),(zq308 hin).2 ha,if_neg (by simp),ht]
 simp
theorem zq1174 {ps : List Pf} {ks : List (List Ad)} {ls : List Ls} {now : Int} (h : StOk ps ks ls now) {m : List Ls} (hs : m.Sublist ls) {n : Int} (hn : now ≤ n) (ht : betw n 0 9999 = true) (hu : ∀ x ∈ m,n ≤ x.upto) : StOk ps ks m n := by
 have hin : lsIn m := fun x hx => h.lin x (hs.subset hx)
 exact ⟨h.pin,h.kin,hin,h.klen,h.plen,h.pool,h.pair,ht,zq274 hin (Nat.le_trans hs.length_le h.llen) (fun x hx => h.lchk x (hs.subset hx)) (((zq308 h.lin).1 (zq275 h.all).2.2.1).sublist hs) ht,
  fun x hx => h.has x (hs.subset hx),hu,h.who.sublist hs⟩
theorem zq1175 {ps : List Pf} {ks : List (List Ad)} {ls : List Ls} {now : Int} (h : StOk ps ks ls now) {k : Nat} {p : Pf} (hp : ps[k]? = some p) {kp : List Ad} {who : ByteArray} {u : Int} {m : List Ls} {a : Ad} (g : Given p kp (ownL p ls) who now u m a)
  (hw : ∀ x ∈ m,∀ y ∈ othL p ls,x.who ≠ y.who) (h20 : m.length + (othL p ls).length ≤ 20) : StOk ps ks (sortL (m ++ othL p ls)) now := by
 have hmem : ∀ x,x ∈ sortL (m ++ othL p ls) ↔ x ∈ m ∨ x ∈ othL p ls := fun x => by rw [(zq1632 _).mem_iff,zc36]
 have hpm := zc5 hp
 have hap := zq1120 (zq307 g.good.asc) (zq307 (zq1248 h p)) g.good.held zq1249
 have hin : lsIn (sortL (m ++ othL p ls)) := fun x hx => by
  rcases (hmem x).1 hx with hx | hx
  ·exact g.good.ins x hx
  ·exact oth_in h.lin x hx
 have hasc : (sortL (m ++ othL p ls)).Pairwise fun x y => rank x.ad < rank y.ad := by
  have h1 := zq1633 (m ++ othL p ls)
  have h2 : (sortL (m ++ othL p ls)).Pairwise fun x y => x.ad ≠ y.ad := ((zq1632 _).pairwise_iff (fun hxy => Ne.symm hxy)).2 hap
  refine List.Pairwise.imp_of_mem (fun {x y} hx hy hxy => ?_) (h1.and h2)
  obtain ⟨e1,e2⟩ := hxy
  unfold leL at e1
  rw [zq230,decide_eq_false_iff_not] at e1
  exact (zq1246 (hin x hx).1 (hin y hy).1).1.1 (zq1241 e1 (Ne.symm e2))
 refine ⟨h.pin,h.kin,hin,h.klen,h.plen,h.pool,h.pair,h.time,zq274 hin (by rw [(zq1632 _).length_eq,zc24]; exact h20) (fun x hx => ?_) hasc h.time,fun x hx => ?_,fun x hx => ?_,?_⟩
 ·rcases (hmem x).1 hx with hx | hx
  ·exact g.good.chk x hx
  ·exact h.lchk x (List.mem_filter.1 hx).1
 ·rcases (hmem x).1 hx with hx | hx
  ·exact ⟨p,hpm,g.good.held x hx⟩
  ·exact h.has x (List.mem_filter.1 hx).1
 ·rcases (hmem x).1 hx with hx | hx
  ·exact g.alive x hx
  ·exact h.upto x (List.mem_filter.1 hx).1
 ·refine ((zq1632 _).pairwise_iff (fun hxy => Ne.symm hxy)).2 (List.pairwise_append.2 ⟨g.good.whos,h.who.filter _,hw⟩)
theorem zq715 {p : Pf} {kp : List Ad} {l : List Ls} {who : ByteArray} {now u : Int} {m : List Ls} (hr : m = (rawOf p kp (live l now) who u).1) : ∀ x ∈ m,x.who = who ∨ x ∈ l := by
 intro x hx
 subst hr
 unfold rawOf at hx
 cases hf : zq657 (whoP who) (live l now) with
 | some k =>
  rw [hf] at hx
  obtain ⟨e,he,hq,_⟩ := zq662 hf
  simp only [zq799,he] at hx
  rcases zq1118 hx with hx | rfl
  ·exact .inr (zq1006 hx).1
  ·exact .inl (by simpa [whoP] using hq)
 | none =>
  rw [hf] at hx
  cases hfr : zq700 p kp (live l now) with
  | none => rw [hfr] at hx; cases hx
  | some b =>
   rw [hfr] at hx
   rcases zq1115.1 hx with hx | rfl
   ·exact .inr (zq1006 hx).1
   ·exact .inl rfl
theorem zq310 {p : Pf} {ls : List Ls} {who : ByteArray} (h : awayB p ls who = false) (hw : ls.Pairwise fun x y => x.who ≠ y.who) : ∀ x ∈ othL p ls,x.who ≠ who := by
 intro x hx he
 obtain ⟨h1,h2⟩ := List.mem_filter.1 hx
 obtain ⟨k,hk,hk2⟩ := zq1814 hw h1
 unfold awayB at h
 rw [← he,hk] at h
 simp only [hk2] at h
 rw [h] at h2
 cases h2
theorem zq545 {ps : List Pf} {ks : List (List Ad)} {ls : List Ls} {now : Int} (h : StOk ps ks ls now) {o : Oq} (ho : o.In) {ps' : List Pf} {ks' : List (List Ad)} {ls' : List Ls} {now' : Int} {a : Ad} (he : doOf ps ks ls now o = okS ps' ks' ls' now' a) : StOk ps' ks' ls' now' ∧ now ≤ now' := by
 have hno : ∀ {e : Int},e ≠ 0 → errS e = okS ps' ks' ls' now' a → StOk ps' ks' ls' now' ∧ now ≤ now' := fun hn he => absurd (congrArg (fun y => y.2.2.1) he) hn
 have hok : ∀ {p1 : List Pf} {k1 : List (List Ad)} {l1 : List Ls} {n1 : Int} {a1 : Ad},okS p1 k1 l1 n1 a1 = okS ps' ks' ls' now' a → StOk p1 k1 l1 n1 → now ≤ n1 → StOk ps' ks' ls' now' ∧ now ≤ now' := fun he h1 h2 => by
  unfold okS at he
  simp only [zc11] at he
  obtain ⟨⟨⟨rfl,rfl⟩,rfl,rfl,_⟩,_⟩ := he
  exact ⟨h1,h2⟩
 unfold doOf at he
 split at he
 ·rename_i hf; exact hno hf he
 rename_i hf
 have hf := zc49.1 hf
 split at he
 ·rename_i hk
  obtain ⟨c1,c2⟩ := zq695 hf hk
  unfold zq547 at he
  split at he
  ·exact hno (by decide) he
  rename_i ha
  split at he
  ·exact hno (by decide) he
  rename_i h3
  exact hok he (zq1177 h ho.2.1 c1 c2 (by simpa using ha) h3) (Int.le_refl _)
 split at he
 ·rename_i hk
  unfold zq543 at he
  split at he
  ·exact hno (by decide) he
  rename_i i hi
  split at he
  ·exact hno (by decide) he
  rename_i ha
  split at he
  ·exact hno (by decide) he
  rename_i h6
  exact hok he (zq1176 h ho.2.2.1 (zq693 hf hk) hi (Bool.eq_false_iff.2 ha) h6) (Int.le_refl _)
 split at he
 ·rename_i hk
  obtain ⟨g1,g2⟩ := zq692 hf hk
  have hw := zq697 hf (.inl hk)
  unfold zq542 at he
  split at he
  ·exact hno (by decide) he
  rename_i p hp
  split at he
  ·exact hno (by decide) he
  rename_i haw
  split at he
  ·exact hno (by decide) he
  rename_i hr
  split at he
  ·exact hno (by decide) he
  rename_i h20
  have gv := zq729 h hp ho.2.2.2.1 hw g2 hr
  refine hok he (zq1175 h hp gv (fun x hx y hy e => ?_) (by omega)) (Int.le_refl _)
  rcases zq715 rfl x hx with hx | hx
  ·exact zq310 (by simpa using haw) h.who y hy (by rw [← e,hx])
  ·obtain ⟨x1,x2⟩ := List.mem_filter.1 hx
   obtain ⟨y1,y2⟩ := List.mem_filter.1 hy
   obtain ⟨i,hi,hi2⟩ := zq1814 h.who x1
   obtain ⟨j,hj,hj2⟩ := zq1814 h.who y1
   rw [e,hj] at hi
   injection hi with hi
   subst hi
   rw [hj2] at hi2
   injection hi2 with hi2
   rw [hi2,x2] at y2
   cases y2
 split at he
 ·unfold zq541 at he
  split at he
  ·exact hno (by decide) he
  rename_i i hi
  split at he
  ·exact hok he (zq1174 h (by
    have := List.eraseIdx_sublist ls i
    rwa [List.eraseIdx_eq_take_drop_succ] at this) (Int.le_refl _) h.time (fun x hx => h.upto x (by
    have hs := List.eraseIdx_sublist ls i
    rw [List.eraseIdx_eq_take_drop_succ] at hs
    exact hs.subset hx))) (Int.le_refl _)
  ·exact hno (by decide) he
 ·rename_i k1 k2 k3 k4
  unfold zq548 at he
  split at he
  ·exact hno (by decide) he
  rename_i hn
  have hk := zq694 hf
  exact hok he (zq1174 h List.filter_sublist (by omega) (zq696 hf (by omega)) (fun x hx => (zq1006 hx).2)) (by omega)
end Go.Ma
namespace Go.Ma
open Go
structure StIn (ps : List Pf) (ks : List (List Ad)) (ls : List Ls) : Prop where
 p : rowIn .pfx ps
 len : ks.length = ps.length
 k : ∀ l ∈ ks,rowIn .addr l
 l : rowIn .lease ls
theorem StOk.fit {ps : List Pf} {ks : List (List Ad)} {ls : List Ls} {now : Int} (h : StOk ps ks ls now) : fitS ps ks ls := by
 have h1 := h.plen
 have h2 := h.llen
 refine ⟨by omega,fun i => ?_,by omega⟩
 by_cases hi : i < ps.length
 ·have := h.kept (zc0 hi)
  omega
 ·rw [zc3,zc22 (by rw [h.klen]; omega)]
  simp
theorem zq546 (ps : List Pf) (ks : List (List Ad)) (ls : List Ls) (now : Int) (o : Oq) : (∃ e,e ≠ 0 ∧ doOf ps ks ls now o = errS e) ∨ ∃ ps' ks' ls' now' a,doOf ps ks ls now o = okS ps' ks' ls' now' a := by
 by_cases h : (doOf ps ks ls now o).2.2.1 = 0
 ·right
  generalize doOf ps ks ls now o = y at h ⊢
  obtain ⟨⟨⟨p,k⟩,l,n,_⟩,a,e,_⟩ := y
  simp only at h
  subst h
  exact ⟨p,k,l,n,a,rfl⟩
 ·exact .inl ⟨_,h,zq544 h⟩
end Go.Ma
namespace Go.Ma
open Go
def zq312 (a b : List En) : Bool := decide (a.length ≤ b.length) && decide (a = b.take a.length)
theorem zq794 (a b v3 : List En) (ha : a.length = b.length) (hl : a.length < 9223372036854775808) :
  loopN zq1056 FUEL (((),(),(),(lenL a,()),(0,()),()),(a,v3,b,())) =
   some (if a.drop 0 = b.drop 0 then Sum.inr ((),(a,v3,b,())) else Sum.inl ((((false : Bool),()),()),(a,v3,b,()))) := by
 refine zq1087 (step := zq1056) (fun i => (((),(),(),(lenL a,()),((i : Int),()),()),(a,v3,b,()))) a.length (fun i => some (if a.drop i = b.drop i then Sum.inr ((),(a,v3,b,())) else Sum.inl ((((false : Bool),()),()),(a,v3,b,())))) (fun rec i hi hr => ?_) (fun rec => ?_) FUEL 0 (Nat.zero_le _) (zq703 (by omega))
 ·obtain ⟨e,he⟩ : ∃ e,a[i]? = some e := ⟨_,zc0 hi⟩
  obtain ⟨e',he'⟩ : ∃ e,b[i]? = some e := ⟨_,zc0 (by omega)⟩
  simp only [zq1056,zq1050]
  rw [decide_eq_true (show (i : Int) < lenL a by unfold lenL; omega),zq358,zq1463 (zq753 (by omega) (by unfold lenL; omega)),zq709 he,zq332,zq1463 (zq753 (by omega) (by unfold lenL; omega)),zq709 he',zq332,zq332,zq582,zq550 he,zq550 he']
  by_cases hee : e = e'
  ·rw [decide_eq_true hee,zc10,zq356,show ((i : Int) + 1) = ((i + 1 : Nat) : Int) by omega,zq1463 (zq747 (by omega) (by omega)),hr]
   subst hee
   simp
  ·rw [decide_eq_false hee,zc19,zq358]
   simp [hee]
 ·simp only [zq1056]
  rw [decide_eq_false (show ¬ (a.length : Int) < lenL a by unfold lenL; omega),zq356,zc18 (zc47 _),zc18 (show b.length ≤ a.length by omega)]
  rfl
theorem zq1761 (l : List En) (n : Nat) : subL l 0 (n : Int) = l.take n := by simp [subL]
theorem zq1054 {a b : List En} (hl : a.length < 9223372036854775808) : zq1062 a b = some (zq312 a b,()) := by
 unfold zq1062 zq312
 by_cases h : a.length ≤ b.length
 rotate_left
 ·rw [decide_eq_false (show ¬ lenL a ≤ lenL b by unfold lenL; omega),zq356,decide_eq_false h,Bool.false_and]
 have e1 : subL b 0 (lenL a) = b.take a.length := zq1761 b a.length
 have e2 : (b.take a.length).length = a.length := by rw [zc20]; omega
 rw [decide_eq_true (show lenL a ≤ lenL b by unfold lenL; omega),zq358,zq1463 (by rw [Bool.and_true,decide_eq_true_eq]; exact zq989 a),e1,decide_eq_true (show lenL a = lenL (b.take a.length) by unfold lenL; rw [e2]),zc10,zq356,zq794 a _ b e2.symm hl,zq332,List.drop_zero,List.drop_zero,decide_eq_true h,Bool.true_and]
 by_cases he : a = b.take a.length
 ·rw [if_pos he,decide_eq_true he]; rfl
 ·rw [if_neg he,decide_eq_false he]; rfl
theorem zq101 {a b : List En} (hl : a.length < 9223372036854775808) : zq103 a b = some (zq312 a b,()) := by
 unfold zq103 zq312
 by_cases h : a.length ≤ b.length
 rotate_left
 ·rw [decide_eq_true (show lenL a > lenL b by unfold lenL; omega),zq358,decide_eq_false h,Bool.false_and]
 have e1 : subL b 0 (lenL a) = b.take a.length := zq1761 b a.length
 rw [decide_eq_false (show ¬ lenL a > lenL b by unfold lenL; omega),zq356,zq1463 (by unfold lenL; simp; omega),e1,zq145 hl,zq332,decide_eq_true h,Bool.true_and]
def zq324 (a b : List En) (m : Int) : List En := (b.drop a.length).take m.toNat
theorem zq1546 {a b : List En} {m : Int} (ha : a.length ≤ 30) (hb : b.length ≤ 30) (h : a.length ≤ b.length) (h0 : 0 ≤ m) (h1 : m ≤ 30) : zq1548 a b m = some (zq324 a b m,()) := by
 unfold zq1548 zq324
 have e0 : minI (lenL b) (lenL a + m) = ((min b.length (a.length + m.toNat) : Nat) : Int) := by
  unfold minI lenL
  split <;> omega
 have e1 : subL b (lenL a) (minI (lenL b) (lenL a + m)) = (b.drop a.length).take m.toNat := by
  rw [e0]
  unfold subL lenL
  rw [zc41,zc41,List.drop_take]
  by_cases hc : b.length ≤ a.length + m.toNat
  ·rw [List.take_of_length_le (by rw [zc40]; omega),List.take_of_length_le (by rw [zc40]; omega)]
  ·congr 1
   omega
 rw [zq1463 (zq747 (by unfold lenL; omega) (by unfold lenL; omega)),zq1463 (by rw [e0]; unfold lenL; simp; omega),e1,zq416 (by rw [zc20,zc40]; omega),zq332]
def zq317 (a b : List En) : Bool × Int × Unit := if zq386 a ≠ 0 then (false,zq386 a,()) else if zq386 b ≠ 0 then (false,zq386 b,()) else (zq312 a b,0,())
theorem zq1034 {a b : List En} (ha : logIn a) (hb : logIn b) : zq1036 a b = some (zq317 a b) := by
 unfold zq1036 zq317
 rw [zq1043 ha,zq332]
 by_cases h1 : zq386 a = 0
 ·have hl := zq390 h1
  rw [decide_eq_true (show (zq386 a,()).1 = 0 from h1),zc10,zq356,if_neg (fun h => h h1),zq1043 hb,zq332]
  by_cases h2 : zq386 b = 0
  ·rw [decide_eq_true (show (zq386 b,()).1 = 0 from h2),zc10,zq356,if_neg (fun h => h h2),zq1054 (by omega),zq332]
  ·rw [decide_eq_false (show ¬ (zq386 b,()).1 = 0 from h2),zc19,zq358,if_pos h2]
 ·rw [decide_eq_false (show ¬ (zq386 a,()).1 = 0 from h1),zc19,zq358,if_pos h1]
def nextE (a b : List En) (m : Int) : Int := if zq386 a ≠ 0 then zq386 a else if zq386 b ≠ 0 then zq386 b else if zq312 a b = false then 4 else if m < 0 ∨ m > 30 then 3 else 0
def nextT (a b : List En) (m : Int) : List En × Int × Unit := if nextE a b m ≠ 0 then ([],nextE a b m,()) else (zq324 a b m,0,())
theorem zq321 {a b : List En} (h : zq312 a b = true) : a.length ≤ b.length := by
 unfold zq312 at h
 simp only [zc4,decide_eq_true_eq] at h
 exact h.1
theorem zq1552 {a b : List En} (ha : logIn a) (hb : logIn b) (m : Int) : zq1554 a b m = some (nextT a b m) := by
 unfold zq1554 nextT nextE
 rw [zq1034 ha hb,zq332]
 unfold zq317
 by_cases h1 : zq386 a = 0
 rotate_left
 ·simp [h1,zq358]
 by_cases h2 : zq386 b = 0
 rotate_left
 ·simp [h1,h2,zq358]
 have l1 := zq390 h1
 have l2 := zq390 h2
 cases h3 : zq312 a b
 ·simp [h1,h2,zq358,zq356]
 ·have hle := zq321 h3
  simp only [h1,h2,ne_eq,not_true,if_false,decide_true,zc10,zq356,br_sb,zq332,Bool.true_eq_false]
  by_cases h4 : m < 0 ∨ m > 30
  ·have : (bif decide (m < 0) then true else decide (m > 30)) = true := by rcases h4 with h | h <;> simp [h]
   rw [this,zq358]
   simp [h4]
  ·have : (bif decide (m < 0) then true else decide (m > 30)) = false := by
    have g5 : ¬ m < 0 := fun h => h4 (.inl h)
    have g6 : ¬ m > 30 := fun h => h4 (.inr h)
    simp [g5,g6]
   rw [this,zq356,if_neg h4,zq1546 l1 l2 hle (by omega) (by omega),zq332]
   simp
def takeT (a m : List En) : List En × Int × Unit := if zq386 a ≠ 0 then ([],zq386 a,()) else if zq386 (a ++ m) ≠ 0 then ([],zq386 (a ++ m),()) else (a ++ m,0,())
theorem app_in {a b : List En} (ha : logIn a) (hb : logIn b) : logIn (a ++ b) := fun e he => (zc36.1 he).elim (ha e) (hb e)
theorem zq1558 {a m : List En} (ha : logIn a) (hm : logIn m) (hl : m.length ≤ 1048576) : zq1569 a m = some (takeT a m) := by
 unfold zq1569 takeT
 rw [zq1043 ha,zq332]
 by_cases h1 : zq386 a = 0
 rotate_left
 ·rw [decide_eq_false (show ¬ (zq386 a,()).1 = 0 from h1),zc19,zq358,if_pos h1]
 have l1 := zq390 h1
 have hn1 := zq989 a
 have hn2 := zq989 m
 have n1 : ¬ 0 + lenL a < 0 := by omega
 have n2 : ¬ 0 + lenL a + lenL m < 0 := by omega
 have i1 : i64ok (0 + lenL a) = true := zq747 (by unfold lenL; omega) (by unfold lenL; omega)
 have i2 : i64ok (0 + lenL a + lenL m) = true := zq747 (by unfold lenL; omega) (by unfold lenL; omega)
 have i3 : (decide (0 ≤ 0 + lenL a + lenL m) && Nat.ble (0 + lenL a + lenL m).toNat 1099511627776) = true := by
  rw [zc4,decide_eq_true_eq,Nat.ble_eq]
  unfold lenL
  omega
 have r1 : room (lenL ([] : List En)) (lenL a) = true := zq1488 (zq989 _) hn1 (by simp only [lenL,List.length_nil]; omega)
 have r2 : room (lenL a) (lenL m) = true := zq1488 hn1 hn2 (by unfold lenL; omega)
 rw [decide_eq_true (show (zq386 a,()).1 = 0 from h1),zc10,zq356,if_neg (fun h => h h1)]
 simp only [zc42,decide_eq_false n1,decide_eq_false n2,zq356,i1,i2,i3,r1,r2,zq1466]
 rw [zq1043 (app_in ha hm),zq332]
 by_cases h2 : zq386 (a ++ m) = 0
 ·rw [decide_eq_true (show (zq386 (a ++ m),()).1 = 0 from h2),zc10,zq356,if_neg (fun h => h h2)]
 ·rw [decide_eq_false (show ¬ (zq386 (a ++ m),()).1 = 0 from h2),zc19,zq358,if_pos h2]
theorem zq26 {a b : List En} {m : Int} (ha : a.length ≤ 30) (hb : b.length ≤ 30) (h : a.length ≤ b.length) (h0 : 0 ≤ m) (h1 : m ≤ 30) : zq28 a b m = some (zq324 a b m,()) := by
 unfold zq28
 have key : ∀ (N i : Nat),a.length ≤ i → i ≤ b.length → (i : Int) ≤ lenL a + m → b.length - i < N →
   loopN zq20 N (((),(),(m,()),(),((i : Int),()),()),(a,b,(b.drop a.length).take (i - a.length),())) = some (((),()),(a,b,zq324 a b m,())) := by
  intro N
  induction N with
  | zero => intro i _ _ _ hx; omega
  | succ N ih =>
   intro i hi hib him hx
   rw [zq1083]
   simp only [zq20]
   have i0 : i64ok (lenL a + m) = true := zq747 (by unfold lenL; omega) (by unfold lenL; omega)
   rw [i0,zq1466,br_sb,zq332]
   by_cases hc : i < b.length ∧ (i : Int) < lenL a + m
   ·obtain ⟨e,he⟩ : ∃ e,b[i]? = some e := ⟨_,zc0 hc.1⟩
    have hlt : (((b.drop a.length).take (i - a.length)).length : Int) ≤ 30 := by rw [zc20,zc40]; omega
    rw [decide_eq_true (show (i : Int) < lenL b by unfold lenL; omega),cond_true,decide_eq_true hc.2,zq358,zq1463 (zq753 (by omega) (by unfold lenL; omega)),zq709 he,zq332,zq1463 (zq1488 (zq989 _) (zq989 _) (by unfold lenL; simp only [List.length_cons,List.length_nil]; omega)),zq1463 (zq747 (by omega) (by omega)),show ((i : Int) + 1) = ((i + 1 : Nat) : Int) by omega]
    have e2 : (b.drop a.length).take (i - a.length) ++ [e] = (b.drop a.length).take (i + 1 - a.length) := by
     rw [show i + 1 - a.length = (i - a.length) + 1 by omega,List.take_add_one,zc39,show a.length + (i - a.length) = i by omega,he]
     rfl
    rw [e2]
    exact ih (i + 1) (by omega) (by omega) (by unfold lenL at hc ⊢; omega) (by omega)
   ·have : (bif decide ((i : Int) < lenL b) then decide ((i : Int) < lenL a + m) else false) = false := by
     by_cases h5 : (i : Int) < lenL b
     ·rw [decide_eq_true h5,cond_true,decide_eq_false]
      intro h6
      exact hc ⟨by unfold lenL at h5; omega,h6⟩
     ·rw [decide_eq_false h5,cond_false]
    rw [this,zq356]
    congr 5
    unfold zq324
    by_cases h5 : i < b.length
    ·have : (i : Int) = lenL a + m := by
      have h6 : ¬ (i : Int) < lenL a + m := fun h6 => hc ⟨h5,h6⟩
      omega
     congr 1
     unfold lenL at this
     omega
    ·rw [List.take_of_length_le (by rw [zc40]; omega),List.take_of_length_le]
     unfold lenL at him
     rw [zc40]
     omega
 have := key FUEL a.length (zc47 _) h (by unfold lenL; omega) (zq703 (by omega))
 rw [Nat.sub_self,List.take_zero] at this
 rw [show lenL a = ((a.length : Nat) : Int) from rfl,this,zq332]
theorem ents1 : subL ents 0 1 = [⟨1,1,op1⟩] := by decide
theorem ents2 : subL ents 0 2 = [⟨1,1,op1⟩,⟨2,1,op2⟩] := by decide
theorem zq1182 : logIn [(⟨1,1,op1⟩ : En)] := fun e he => zq577 e (by simp only [zc38] at he; subst he; simp [ents])
theorem zq1782 : logIn [(⟨1,1,op1⟩ : En),⟨2,1,op2⟩] := fun e he => zq577 e (by
 simp only [zc28,zc37,or_false] at he
 rcases he with rfl | rfl <;> simp [ents])
theorem zq1521 : logIn [(⟨2,1,op2⟩ : En)] := fun e he => zq1782 e (by simp only [zc38] at he; subst he; simp)
theorem sb1 : nextT [⟨1,1,op1⟩] ents 1 = ([⟨2,1,op2⟩],0,()) := by decide +kernel
theorem sb2 : takeT [⟨1,1,op1⟩] [⟨2,1,op2⟩] = ([⟨1,1,op1⟩,⟨2,1,op2⟩],0,()) := by decide +kernel
theorem sb3 : takeT [⟨1,1,op1⟩,⟨2,1,op2⟩] [⟨2,1,op2⟩] = ([],4,()) := by decide +kernel
theorem le1 : (true && decide (1 ≤ lenL ents)) = true := rfl
theorem le2 : (true && decide (2 ≤ lenL ents)) = true := rfl
theorem zq1542 : zq892 = some (true,()) := by
 unfold zq892
 simp only [zq575,zq332,le1,le2,zq1466,ents1,ents2,zq1552 zq1182 zq577,sb1,zq1558 zq1182 zq1521 (by decide),sb2,zq1558 zq1782 zq1521 (by decide),sb3,decide_true,zq358,zq354,
  zq145 (show ([(⟨1,1,op1⟩ : En),⟨2,1,op2⟩]).length < 9223372036854775808 by decide)]
 rfl
end Go.Ma
namespace Go.Ma
open Go
def stepS (s : StV) (o : Oq) : StV × Ad := (if (doOf s.1.1 s.1.2 s.2.1 s.2.2.1 o).2.2.1 = 0 then (doOf s.1.1 s.1.2 s.2.1 s.2.2.1 o).1 else s,(doOf s.1.1 s.1.2 s.2.1 s.2.2.1 o).2.1)
def zq1458 : StV → List En → StV
 | s,[] => s
 | s,e :: r => zq1458 (stepS s e.op).1 r
def zq1455 : StV → List En → List Ad
 | _,[] => []
 | s,e :: r => (stepS s e.op).2 :: zq1455 (stepS s e.op).1 r
theorem zq1459 : ∀ (l : List En) (s : StV) (e : En),zq1458 s (l ++ [e]) = (stepS (zq1458 s l) e.op).1
 | [],_,_ => rfl
 | x :: r,s,e => zq1459 r _ e
theorem zq1457 : ∀ (l : List En) (s : StV) (e : En),zq1455 s (l ++ [e]) = zq1455 s l ++ [(stepS (zq1458 s l) e.op).2]
 | [],_,_ => rfl
 | x :: r,s,e => by
  show _ :: zq1455 _ (r ++ [e]) = _
  rw [zq1457 r _ e]
  rfl
theorem zq1456 : ∀ (l : List En) (s : StV),(zq1455 s l).length = l.length
 | [],_ => rfl
 | x :: r,s => by simp [zq1455,zq1456 r]
def StOkV (s : StV) : Prop := StOk s.1.1 s.1.2 s.2.1 s.2.2.1
theorem zq1154 : StOkV noSt := zq1652 zq1280 zq812 zq1095 rfl sc0
theorem zq1748 {s : StV} (h : StOkV s) {o : Oq} (ho : o.In) : StOkV (stepS s o).1 := by
 unfold stepS
 simp only
 rcases zq546 s.1.1 s.1.2 s.2.1 s.2.2.1 o with ⟨e,he,h1⟩ | ⟨p,k,l,n,a,h1⟩
 ·rw [h1,if_neg (show ¬ (errS e).2.2.1 = 0 from he)]; exact h
 ·rw [h1,if_pos (show (okS p k l n a).2.2.1 = 0 from rfl)]
  exact (zq545 h ho h1).1
theorem zq1462 : ∀ {l : List En} {s : StV},StOkV s → logIn l → StOkV (zq1458 s l)
 | [],_,h,_ => h
 | e :: r,s,h,hl => by
  show StOkV (zq1458 (stepS s e.op).1 r)
  exact zq1462 (zq1748 h (hl e List.mem_cons_self).2.2) fun x hx => hl x (List.mem_cons_of_mem _ hx)
theorem zq1772 {l : List En} (h : logIn l) (i : Nat) : logIn (l.take i) := fun e he => h e (List.mem_of_mem_take he)
theorem zq1771 {l : List En} {i : Nat} {x : En} (h : l[i]? = some x) : l.take (i + 1) = l.take i ++ [x] := by
 have hi := (zc1.1 h).1
 rw [zc26 hi,(zc1.1 h).2]
abbrev DRp := List En × (Int × Unit) × (Int × Unit) × List Pf × List Ls × List Pf × List Ls × List Ad × List (List Ad) × List (List Ad) × Unit
theorem zq1025 {l : List En} (h : logIn l) (hlen : l.length ≤ 30) : zq1027 l = some (zq1458 noSt l,zq1455 noSt l,()) := by
 unfold zq1027
 have := zq1087 (step := zq1016) (fun i => (((),(),(),(lenL l,()),((i : Int),()),()),((l,(0,()),((zq1458 noSt (l.take i)).2.2.1,()),([] : List Pf),([] : List Ls),(zq1458 noSt (l.take i)).1.1,(zq1458 noSt (l.take i)).2.1,zq1455 noSt (l.take i),([] : List (List Ad)),(zq1458 noSt (l.take i)).1.2,()) : DRp))) l.length
  (fun _ => some (((),(),()),((l,(0,()),((zq1458 noSt l).2.2.1,()),([] : List Pf),([] : List Ls),(zq1458 noSt l).1.1,(zq1458 noSt l).2.1,zq1455 noSt l,([] : List (List Ad)),(zq1458 noSt l).1.2,()) : DRp))) (fun rec i hi hr => ?_) (fun rec => ?_) FUEL 0 (Nat.zero_le _) (zq703 (by omega))
 ·rw [show ((0 : Nat) : Int) = 0 from rfl,List.take_zero] at this
  have this : loopN zq1016 FUEL (((),(),(),(lenL l,()),(0,()),()),(l,(0,()),(0,()),([] : List Pf),([] : List Ls),([] : List Pf),([] : List Ls),([] : List Ad),([] : List (List Ad)),([] : List (List Ad)),())) = _ := this
  rw [this,zq332]
 ·obtain ⟨x,hx⟩ : ∃ e,l[i]? = some e := ⟨_,zc0 hi⟩
  have hok : StOkV (zq1458 noSt (l.take i)) := zq1462 zq1154 (zq1772 h i)
  have hrw := zq1714 hok (h x (zc5 hx)).2.2
  have e1 : zq1458 noSt (l.take (i + 1)) = (stepS (zq1458 noSt (l.take i)) x.op).1 := by rw [zq1771 hx,zq1459]
  have e2 : zq1455 noSt (l.take (i + 1)) = zq1455 noSt (l.take i) ++ [(stepS (zq1458 noSt (l.take i)) x.op).2] := by rw [zq1771 hx,zq1457]
  rw [e1,e2] at hr
  have hal := zq1456 (l.take i) noSt
  generalize zq1458 noSt (l.take i) = s at hrw hr hok ⊢
  generalize zq1455 noSt (l.take i) = out at hr hal ⊢
  have hol : out.length ≤ i := by rw [hal]; simp; omega
  simp only [zq1016]
  rw [decide_eq_true (show (i : Int) < lenL l by unfold lenL; omega),zq358,zq1463 (zq753 (by omega) (by unfold lenL; omega)),zq709 hx,zq332]
  simp only [zq553,zq354]
  rw [hrw,zq332,zq1463 (zq1488 (zq989 _) (by simp [lenL]) (by unfold lenL; simp; omega)),zq1463 (zq1488 (zq989 _) (by simp [lenL]) (by unfold lenL; simp; omega)),zq1463 (zq747 (by omega) (by omega)),zq1463 (zq747 (by omega) (by omega)),show ((i : Int) + 1) = ((i + 1 : Nat) : Int) by omega]
  unfold stepS at hr
  simp only at hr
  by_cases h0 : (doOf s.1.1 s.1.2 s.2.1 s.2.2.1 x.op).2.2.1 = 0
  ·simp only [h0,if_true] at hr
   rw [decide_eq_true h0,zq358,hr]
  ·simp only [h0,if_false] at hr
   rw [decide_eq_false h0,zq356,hr]
 ·simp only [zq1016]
  rw [decide_eq_false (show ¬ (l.length : Int) < lenL l by unfold lenL; omega),zq356,List.take_length]
def zq1460 (l : List En) : StV × List Ad × Int × Unit := if zq386 l ≠ 0 then (noSt,[],zq386 l,()) else (zq1458 noSt l,zq1455 noSt l,0,())
theorem zq1072 {l : List En} (h : logIn l) : zq1074 l = some (zq1460 l) := by
 unfold zq1074 zq1460
 rw [zq1043 h,zq332]
 by_cases hc : zq386 l = 0
 ·rw [decide_eq_true hc,zc10,zq356,if_neg (fun hh => hh hc),zq1025 h (zq390 hc),zq332]
 ·rw [decide_eq_false hc,zc19,zq358,if_pos hc]; rfl
def addT (l : List En) (ep : Int) (o : Oq) : List En × Int × Unit := if zq386 l ≠ 0 then ([],zq386 l,()) else zq1124 l ep o
theorem zq1013 {l : List En} (h : logIn l) (ep : Int) {o : Oq} (ho : o.In) : zq1015 l ep o = some (addT l ep o) := by
 unfold zq1015 addT
 rw [zq1043 h,zq332]
 by_cases hc : zq386 l = 0
 ·rw [decide_eq_true hc,zc10,zq356,if_neg (fun hh => hh hc),zq1066 (zq390 hc) ep ho,zq332]
 ·rw [decide_eq_false hc,zc19,zq358,if_pos hc]
theorem zq1125 {l : List En} {ep : Int} {o : Oq} (h : (zq1124 l ep o).2.1 = 0) : betw ep 1 999 = true ∧ prevE l l.length ≤ ep ∧ formO o = 0 ∧ l.length ≠ 30 ∧ (zq1124 l ep o).1 = l ++ [⟨lenL l + 1,ep,o⟩] := by
 unfold zq1124 at h ⊢
 split at h
 ·cases h
 rename_i h1
 split at h
 ·cases h
 rename_i h2
 split at h
 ·rename_i h3; exact absurd h h3
 rename_i h3
 split at h
 ·cases h
 rename_i h4
 refine ⟨by simpa using h1,by omega,zc49.1 h3,h4,?_⟩
 rw [if_neg h1,if_neg h2,if_neg h3,if_neg h4]
theorem lb_add : addT ents 4 op3 = (ents4,0,()) := by decide +kernel
theorem zq913 : addT ents 3 op3 = ([],4,()) := by decide +kernel
theorem lb_rep : zq1460 ents4 = (((sP,sK),sL,0,()),[⟨false,0,0⟩,⟨false,0,0⟩,⟨false,0,9⟩,⟨false,0,9⟩],0,()) := by decide +kernel
theorem lb_beg : zq317 ents ents4 = (true,0,()) := by decide +kernel
theorem lb_chk : zq386 ents = 0 := by decide +kernel
theorem zq576 : logIn ents4 := fun e he => by
 rcases zc36.1 he with he | he
 ·exact zq577 e he
 ·simp only [zc38] at he
  subst he
  exact ⟨⟨by decide,by decide⟩,⟨by decide,by decide⟩,op_in.2.2⟩
theorem zq1007 : zq882 = some (true,()) := by
 unfold zq882
 have e1 := zq1013 zq577 4 op_in.2.2
 have e2 := zq1013 zq577 3 op_in.2.2
 have e3 := zq1072 zq576
 have e4 := zq1034 zq577 zq576
 have e5 := zq1043 zq577
 rw [lb_add] at e1
 rw [zq913] at e2
 rw [lb_rep] at e3
 rw [lb_beg] at e4
 rw [lb_chk] at e5
 simp only [zq575,zq1628,zq332]
 rw [zq1463 in2,get2,zq332,e1,zq332]
 simp only
 rw [e3,zq332,e4,zq332,zq1463 in2,zq332,e2,zq332,e5,zq332]
 rfl
def enOk (l : List En) (j : Nat) (e : En) : Prop := e.num = (j : Int) + 1 ∧ betw e.epoch 1 999 = true ∧ prevE l j ≤ e.epoch ∧ formO e.op = 0
theorem zq388 (l : List En) : ∀ (k i : Nat),l.length - i ≤ k → (zq387 (l.drop i) (i : Int) (prevE l i) = 0 ↔ ∀ j e,i ≤ j → l[j]? = some e → enOk l j e)
 | 0,i,hk => by
  rw [zc18 (by omega)]
  refine ⟨fun _ j e hij hj => ?_,fun _ => rfl⟩
  have := (zc1.1 hj).1
  omega
 | k + 1,i,hk => by
  by_cases hi : i < l.length
  rotate_left
  ·rw [zc18 (by omega)]
   refine ⟨fun _ j e hij hj => ?_,fun _ => rfl⟩
   have := (zc1.1 hj).1
   omega
  obtain ⟨x,hx⟩ : ∃ e,l[i]? = some e := ⟨_,zc0 hi⟩
  have ih := zq388 l k (i + 1) (by omega)
  rw [show prevE l (i + 1) = x.epoch by simp only [prevE,hx]] at ih
  rw [zq550 hx,zq387]
  have key : enOk l i x ∧ (∀ j e,i + 1 ≤ j → l[j]? = some e → enOk l j e) ↔ ∀ j e,i ≤ j → l[j]? = some e → enOk l j e := by
   constructor
   ·rintro ⟨h1,h2⟩ j e hij hj
    by_cases hji : j = i
    ·subst hji; rw [hx] at hj; injection hj with hj; subst hj; exact h1
    ·exact h2 j e (by omega) hj
   ·intro h
    exact ⟨h i x (zc47 _) hx,fun j e hij hj => h j e (by omega) hj⟩
  rw [← key]
  by_cases h1 : x.num = (i : Int) + 1
  rotate_left
  ·rw [if_pos h1]; exact ⟨fun h => (by cases h),fun h => absurd h.1.1 h1⟩
  rw [if_neg (fun hh => hh h1)]
  by_cases h2 : betw x.epoch 1 999 = true
  rotate_left
  ·rw [if_pos (by simpa using h2)]; exact ⟨fun h => (by cases h),fun h => absurd h.1.2.1 h2⟩
  rw [if_neg (by simp [h2])]
  by_cases h3 : x.epoch < prevE l i
  ·rw [if_pos h3]; exact ⟨fun h => (by cases h),fun h => absurd h.1.2.2.1 (by omega)⟩
  rw [if_neg h3]
  by_cases h4 : formO x.op = 0
  rotate_left
  ·rw [if_pos h4]; exact ⟨fun h => absurd h h4,fun h => absurd h.1.2.2.2 h4⟩
  rw [if_neg (fun hh => hh h4),show ((i : Int) + 1) = ((i + 1 : Nat) : Int) by omega,ih]
  exact ⟨fun h => ⟨⟨by omega,h2,by omega,h4⟩,h⟩,fun h => h.2⟩
theorem zq389 {l : List En} : zq386 l = 0 ↔ l.length ≤ 30 ∧ ∀ j e,l[j]? = some e → enOk l j e := by
 unfold zq386
 by_cases h : l.length > 30
 ·rw [if_pos h]; exact ⟨fun h => (by cases h),fun h2 => absurd h2.1 (by omega)⟩
 ·rw [if_neg h]
  have := zq388 l l.length 0 (by omega)
  rw [List.drop_zero] at this
  have this : zq387 l 0 0 = 0 ↔ _ := this
  rw [this]
  exact ⟨fun g => ⟨by omega,fun j e hj => g j e (Nat.zero_le _) hj⟩,fun g j e _ hj => g.2 j e hj⟩
theorem zq1364 {l : List En} {n j : Nat} (h : j ≤ n) : prevE (l.take n) j = prevE l j := by
 cases j with
 | zero => rfl
 | succ j => simp only [prevE,zc14,if_pos (show j < n by omega)]
theorem zq392 {l : List En} (h : zq386 l = 0) (n : Nat) : zq386 (l.take n) = 0 := by
 obtain ⟨h1,h2⟩ := zq389.1 h
 refine zq389.2 ⟨by rw [zc20]; omega,fun j e hj => ?_⟩
 rw [zc14] at hj
 split at hj
 ·rename_i hjn
  obtain ⟨g1,g2,g3,g4⟩ := h2 j e hj
  exact ⟨g1,g2,by rw [zq1364 (by omega)]; exact g3,g4⟩
 ·cases hj
theorem zq315 {l : List En} {n m : Nat} (h : n ≤ m) (hm : m ≤ l.length) : zq312 (l.take n) (l.take m) = true := by
 unfold zq312
 rw [zc20,zc20,Nat.min_eq_left (by omega),Nat.min_eq_left hm,decide_eq_true h,List.take_take,Nat.min_eq_left h]
 simp
end Go.Ma
namespace Go.Ma
open Go
theorem zq1363 {l m : List En} {j : Nat} (h : j ≤ l.length) : prevE (l ++ m) j = prevE l j := by
 cases j with
 | zero => rfl
 | succ j => simp only [prevE]; rw [zc6 (by omega)]
theorem zq1126 {l : List En} (hc : zq386 l = 0) {ep : Int} {o : Oq} (h : (zq1124 l ep o).2.1 = 0) : zq386 (l ++ [⟨lenL l + 1,ep,o⟩]) = 0 := by
 obtain ⟨m1,m2,m3,m4,_⟩ := zq1125 h
 obtain ⟨c1,c2⟩ := zq389.1 hc
 refine zq389.2 ⟨by simp; omega,fun j e hj => ?_⟩
 by_cases hjl : j < l.length
 ·rw [zc6 hjl] at hj
  obtain ⟨g1,g2,g3,g4⟩ := c2 j e hj
  exact ⟨g1,g2,by rw [zq1363 (by omega)]; exact g3,g4⟩
 ·have hlt := (zc1.1 hj).1
  have : j = l.length := by simp at hlt; omega
  subst this
  rw [List.getElem?_append_right (zc47 _),Nat.sub_self] at hj
  simp only [List.getElem?_cons_zero,Option.some.injEq] at hj
  subst hj
  exact ⟨rfl,m1,by rw [zq1363 (zc47 _)]; exact m2,m3⟩
theorem zq313 (l m : List En) : zq312 l (l ++ m) = true := by
 unfold zq312
 rw [decide_eq_true (show l.length ≤ (l ++ m).length by simp),List.take_left]
 simp
theorem zq318 {a b : List En} (h : zq312 a b = true) : a = b.take a.length := by
 unfold zq312 at h
 rw [zc4] at h
 exact of_decide_eq_true h.2
theorem zq325 (l : List En) (k : Nat) (hk : k ≤ l.length) (m : Nat) : zq324 (l.take k) l (m : Int) = (l.drop k).take m ∧ l.take k ++ (l.drop k).take m = l.take (k + m) := by
 unfold zq324
 rw [zc20,Nat.min_eq_left hk,zc41]
 refine ⟨rfl,?_⟩
 rw [List.take_add]
theorem zq551 {l : List En} (h : logIn l) (i m : Nat) : logIn ((l.drop i).take m) := fun e he => h e (List.mem_of_mem_drop (List.mem_of_mem_take he))
theorem zq1826 {ep h u : Int} {l : List En} {o : Oq} (hc : zq384 ep h u l = 0) (hm : (zq1124 l ep o).2.1 = 0) : zq384 ep h u (l ++ [⟨lenL l + 1,ep,o⟩]) = 0 := by
 obtain ⟨h1,h2,h3,h4,h5,h6⟩ := zq385 hc
 unfold zq384
 rw [if_neg,if_neg,if_neg (fun h => h (zq1126 h5 hm)),if_neg]
 ·rw [List.any_append,h6]; simp
 ·rintro (⟨g,g2⟩ | ⟨g,g2⟩) <;> omega
 ·simp only [not_or,Bool.not_eq_false,zq329]
  omega
theorem zq299 {l : List En} (h : logIn l) {n ep : Int} (hn : i64In n) (he : i64In ep) {o : Oq} (ho : o.In) : logIn (l ++ [⟨n,ep,o⟩]) := fun e hm => by
 rcases zc36.1 hm with hm | hm
 ·exact h e hm
 ·simp only [zc38] at hm
  subst hm
  exact ⟨hn,he,ho⟩
end Go.Ma
namespace Go.Ma
open Go
abbrev CluV := Int × Int × Int × Int × List En × (List Int × List (List En)) × Unit
def zq398 (ep : Int) (l : List En) (e : Int) (c : List En) : Int := if betw e 0 ep = false then 3 else if zq386 c ≠ 0 then zq386 c else if zq312 c l = false then 4 else 0
def chkN (ep h : Int) (l : List En) (a b : Int) (x y : List En) : Int :=
 if zq398 ep l a x ≠ 0 then zq398 ep l a x else if zq398 ep l b y ≠ 0 then zq398 ep l b y else if a ≠ 0 ∧ a = b then 4 else if a ≠ 0 ∧ a = ep ∧ h ≠ 1 then 4 else if b ≠ 0 ∧ b = ep ∧ h ≠ 2 then 4 else 0
def chkC (now ep h u : Int) (l : List En) (es : List Int) (cs : List (List En)) : Int :=
 if betw now 0 9999 = false then 3 else if zq384 ep h u l ≠ 0 then zq384 ep h u l else
 match es with
 | [a,b] => chkN ep h l a b (cs.getD 0 []) (cs.getD 1 [])
 | _ => 1
theorem zq487 (x a b : Int) : zq489 x a b = some (betw x a b,()) := by
 unfold zq489
 rw [br_sb,zq332,zq328]
theorem zq391 {c : List En} (h : zq386 c = 0) : c.length < 9223372036854775808 := by
 have := zq390 h; omega
theorem zq481 (now ep h u : Int) (l : List En) (ns : List Int × List (List En)) (e : Int) {c : List En} (hc : logIn c) : zq483 now ep h u l ns e c = some (zq398 ep l e c,()) := by
 unfold zq483 zq398
 rw [zq487,zq332,zq1043 hc,zq332]
 cases betw e 0 ep
 ·rfl
 simp only [zc10,zq356,Bool.true_eq_false,if_false]
 by_cases h0 : zq386 c = 0
 rotate_left
 ·rw [decide_eq_false h0,zc19,zq358,if_pos h0]
 rw [decide_eq_true h0,zc10,zq356,if_neg (fun hh => hh h0),zq1054 (zq391 h0),zq332]
 cases zq312 c l <;> rfl
theorem zq1075 {cs : List (List En)} (h : ∀ c ∈ cs,logIn c) (i : Nat) : logIn (cs.getD i []) := by
 rw [zc3]
 cases hi : cs[i]? with
 | none => exact fun e he => by cases he
 | some c => exact h c (zc5 hi)
theorem g20 (a b : Int) : geti [a,b] 0 = some a := rfl
theorem g21 (a b : Int) : geti [a,b] 1 = some b := rfl
theorem gl0 (cs : List (List En)) : getL cs 0 = cs.getD 0 [] := rfl
theorem gl1 (cs : List (List En)) : getL cs 1 = cs.getD 1 [] := rfl
theorem dL0 (a b : Int) : decide ((0 : Int) < lenL [a,b]) = true := rfl
theorem dL1 (a b : Int) : decide ((1 : Int) < lenL [a,b]) = true := rfl
theorem dL2 (a b : Int) : decide ((2 : Int) < lenL [a,b]) = false := rfl
theorem iL0 (a b : Int) : zq751 0 (lenL [a,b]) = true := rfl
theorem iL1 (a b : Int) : zq751 1 (lenL [a,b]) = true := rfl
theorem d02 : decide ((0 : Int) < 2) = true := rfl
theorem d12 : decide ((1 : Int) < 2) = true := rfl
theorem d22 : decide ((2 : Int) < 2) = false := rfl
theorem e01 : (0 : Int) + 1 = 1 := rfl
theorem e11 : (1 : Int) + 1 = 2 := rfl
theorem ok1 : i64ok 1 = true := rfl
theorem ok2 : i64ok 2 = true := rfl
theorem fuel3 : ∃ N,FUEL = N + 3 := ⟨FUEL - 3,by unfold FUEL; rfl⟩
section
variable {now ep h u : Int} {l : List En} {cs : List (List En)}
abbrev DC := List En × List (List En) × List Int × (Int × Int × Int × Int × Unit) × Unit
theorem zq411 (hl : ∀ c ∈ cs,logIn c) (a b : Int) : loopN zq424 FUEL (((),(),(lenL [a,b],()),(0,()),()),((l,cs,[a,b],(now,ep,h,u,()),()) : DC)) =
  some (if zq398 ep l a (cs.getD 0 []) ≠ 0 then Sum.inl (((zq398 ep l a (cs.getD 0 []),()),()),(l,cs,[a,b],())) else if zq398 ep l b (cs.getD 1 []) ≠ 0 then Sum.inl (((zq398 ep l b (cs.getD 1 []),()),()),(l,cs,[a,b],())) else Sum.inr (((),()),((l,cs,[a,b],(now,ep,h,u,()),()) : DC))) := by
 obtain ⟨N,hN⟩ := fuel3
 have hx : logIn (cs.getD 0 []) := zq1075 hl 0
 have hy : logIn (cs.getD 1 []) := zq1075 hl 1
 rw [hN,zq1083]
 simp only [zq424,dL0,d02,zq358,iL0,zq1466,g20,zq332,gl0,zq481 now ep h u l _ a hx,e01,ok1]
 by_cases h1 : zq398 ep l a (cs.getD 0 []) = 0
 rotate_left
 ·rw [decide_eq_false h1,zc19,zq358,if_pos h1]
 rw [decide_eq_true h1,zc10,zq356,if_neg (fun hh => hh h1),zq1083]
 simp only [zq424,dL1,d12,zq358,iL1,zq1466,g21,zq332,gl1,zq481 now ep h u l _ b hy,e11,ok2]
 by_cases h2 : zq398 ep l b (cs.getD 1 []) = 0
 rotate_left
 ·rw [decide_eq_false h2,zc19,zq358,if_pos h2]
 rw [decide_eq_true h2,zc10,zq356,if_neg (fun hh => hh h2),zq1083]
 simp only [zq424,dL2,d22,zq356]
theorem zq410 (a b : Int) : loopN zq421 FUEL (((),(),(lenL [a,b],()),(0,()),()),((l,cs,[a,b],(now,ep,h,u,()),()) : DC)) =
  some (if a ≠ 0 ∧ a = ep ∧ h ≠ 1 then Sum.inl (((4,()),()),(l,cs,[a,b],())) else if b ≠ 0 ∧ b = ep ∧ h ≠ 2 then Sum.inl (((4,()),()),(l,cs,[a,b],())) else Sum.inr ((),(l,cs,[a,b],()))) := by
 obtain ⟨N,hN⟩ := fuel3
 have key2 : ∀ {X : Type} (x k : Int) (f : Bool → Option X),(br (!decide (x = 0)) (some (decide (x = ep))) (some false)).bind (fun c2 => (br c2 (some (!decide (h = k))) (some false)).bind f) = f (decide (x ≠ 0 ∧ x = ep ∧ h ≠ k)) := by
  intro X x k f
  have e1 : decide (x ≠ 0 ∧ x = ep ∧ h ≠ k) = (!decide (x = 0) && (decide (x = ep) && !decide (h = k))) := by
   rw [Bool.decide_and,Bool.decide_and,decide_not,decide_not]
  rw [e1]
  cases decide (x = 0) <;> cases decide (x = ep) <;> cases decide (h = k) <;> rfl
 rw [hN,zq1083]
 simp only [zq421,dL0,d02,zq358,iL0,zq1466,g20,zq332,e01,ok1,key2]
 by_cases h1 : a ≠ 0 ∧ a = ep ∧ h ≠ 1
 ·rw [decide_eq_true h1,zq358,if_pos h1]
 rw [decide_eq_false h1,zq356,if_neg h1,zq1083]
 simp only [zq421,dL1,d12,zq358,iL1,zq1466,g21,zq332,e11,ok2,key2]
 by_cases h2 : b ≠ 0 ∧ b = ep ∧ h ≠ 2
 ·rw [decide_eq_true h2,zq358,if_pos h2]
 rw [decide_eq_false h2,zq356,if_neg h2,zq1083]
 simp only [zq421,dL2,d22,zq356]
theorem zq1427 (hl : ∀ c ∈ cs,logIn c) (a b : Int) : loopN zq50 FUEL (((),(0,()),()),((l,cs,[a,b],(now,ep,h,u,()),()) : DC)) =
  some (if zq398 ep l a (cs.getD 0 []) ≠ 0 then Sum.inl (((zq398 ep l a (cs.getD 0 []),()),()),(l,cs,[a,b],())) else if zq398 ep l b (cs.getD 1 []) ≠ 0 then Sum.inl (((zq398 ep l b (cs.getD 1 []),()),()),(l,cs,[a,b],())) else Sum.inr (((),()),((l,cs,[a,b],(now,ep,h,u,()),()) : DC))) := by
 obtain ⟨N,hN⟩ := fuel3
 have key : ∀ {X : Type} (e : Int) (c : List En) (_ : logIn c) (f : Int → Option X) (g : Option X),(br (!betw e 0 ep) (f 3) ((zq82 c).bind fun y4 => br (!decide (y4.1 = 0)) (f y4.1) ((zq103 c l).bind fun y6 => br (!y6.1) (f 4) g))) = if zq398 ep l e c ≠ 0 then f (zq398 ep l e c) else g := by
  intro X e c hc f g
  unfold zq398
  rw [zq80 hc,zq332]
  cases betw e 0 ep
  ·rfl
  simp only [zc10,zq356,Bool.true_eq_false,if_false]
  by_cases h0 : zq386 c = 0
  rotate_left
  ·rw [decide_eq_false h0,zc19,zq358,if_pos h0,if_pos h0]
  simp only [h0,decide_true,zc10,zq356,ne_eq,not_true_eq_false,if_false]
  rw [zq101 (zq391 h0),zq332]
  cases zq312 c l <;> rfl
 have hx : logIn (cs.getD 0 []) := zq1075 hl 0
 have hy : logIn (cs.getD 1 []) := zq1075 hl 1
 rw [hN,zq1083]
 simp only [zq50,dL0,d02,zq358,iL0,zq1466,g20,zq332,gl0,zq157,e01,ok1]
 rw [key a _ hx (fun e => some (Sum.inl (((e,()),()),(l,cs,[a,b],()))))]
 by_cases h1 : zq398 ep l a (cs.getD 0 []) = 0
 rotate_left
 ·rw [if_pos h1,if_pos h1]
 rw [if_neg (fun hh => hh h1),if_neg (fun hh => hh h1),zq1083]
 simp only [zq50,dL1,d12,zq358,iL1,zq1466,g21,zq332,gl1,zq157,e11,ok2]
 rw [key b _ hy (fun e => some (Sum.inl (((e,()),()),(l,cs,[a,b],()))))]
 by_cases h2 : zq398 ep l b (cs.getD 1 []) = 0
 rotate_left
 ·rw [if_pos h2,if_pos h2]
 rw [if_neg (fun hh => hh h2),if_neg (fun hh => hh h2),zq1083]
 simp only [zq50,dL2,d22,zq356]
theorem zq1426 (a b : Int) : loopN zq47 FUEL (((),(0,()),()),((l,cs,[a,b],(now,ep,h,u,()),()) : DC)) =
  some (if a ≠ 0 ∧ a = ep ∧ h ≠ 1 then Sum.inl (((4,()),()),(l,cs,[a,b],())) else if b ≠ 0 ∧ b = ep ∧ h ≠ 2 then Sum.inl (((4,()),()),(l,cs,[a,b],())) else Sum.inr ((),(l,cs,[a,b],()))) := by
 obtain ⟨N,hN⟩ := fuel3
 have key2 : ∀ {X : Type} (x k : Int) (f : Bool → Option X),(br (!decide (x = 0)) (some (decide (x = ep))) (some false)).bind (fun c2 => (br c2 (some (!decide (h = k))) (some false)).bind f) = f (decide (x ≠ 0 ∧ x = ep ∧ h ≠ k)) := by
  intro X x k f
  have e1 : decide (x ≠ 0 ∧ x = ep ∧ h ≠ k) = (!decide (x = 0) && (decide (x = ep) && !decide (h = k))) := by
   rw [Bool.decide_and,Bool.decide_and,decide_not,decide_not]
  rw [e1]
  cases decide (x = 0) <;> cases decide (x = ep) <;> cases decide (h = k) <;> rfl
 rw [hN,zq1083]
 simp only [zq47,dL0,d02,zq358,iL0,zq1466,g20,zq332,e01,ok1,key2]
 by_cases h1 : a ≠ 0 ∧ a = ep ∧ h ≠ 1
 ·rw [decide_eq_true h1,zq358,if_pos h1]
 rw [decide_eq_false h1,zq356,if_neg h1,zq1083]
 simp only [zq47,dL1,d12,zq358,iL1,zq1466,g21,zq332,e11,ok2,key2]
 by_cases h2 : b ≠ 0 ∧ b = ep ∧ h ≠ 2
 ·rw [decide_eq_true h2,zq358,if_pos h2]
 rw [decide_eq_false h2,zq356,if_neg h2,zq1083]
 simp only [zq47,dL2,d22,zq356]
end
theorem zq1783 {es : List Int} (h : lenL es = 2) : ∃ a b,es = [a,b] := by
 match es,h with
 | [],h => cases h
 | [_],h => cases h
 | [a,b],_ => exact ⟨a,b,rfl⟩
 | _ :: _ :: _ :: _,h => simp [lenL] at h; omega
theorem zq382 {now ep h u : Int} {l : List En} {es : List Int} {cs : List (List En)} (h1 : betw now 0 9999 = true) (h2 : zq384 ep h u l = 0) (h3 : ¬ lenL es = 2) : chkC now ep h u l es cs = 1 := by
 unfold chkC
 rw [h1,if_neg (by simp),if_neg (fun hh => hh h2)]
 split
 ·exact absurd rfl h3
 ·rfl
theorem zq430 (now ep h u : Int) {l : List En} (hl : logIn l) (es : List Int) {cs : List (List En)} (hc : ∀ c ∈ cs,logIn c) : zq432 now ep h u l (es,cs) = some (chkC now ep h u l es cs,()) := by
 unfold zq432
 rw [zq487,zq332,zq605 ep h u hl,zq332]
 cases hb : betw now 0 9999
 ·unfold chkC; rw [hb,if_pos rfl]; rfl
 simp only [zc10,zq356]
 by_cases h2 : zq384 ep h u l = 0
 rotate_left
 ·rw [decide_eq_false h2,zc19,zq358]; unfold chkC; rw [hb,if_neg (by simp),if_pos h2]
 rw [decide_eq_true h2,zc10,zq356]
 by_cases h3 : lenL es = 2
 rotate_left
 ·rw [decide_eq_false h3,zc19,zq358,zq382 hb h2 h3]
 obtain ⟨a,b,rfl⟩ := zq1783 h3
 have e0 : chkC now ep h u l [a,b] cs = chkN ep h l a b (cs.getD 0 []) (cs.getD 1 []) := by unfold chkC; rw [hb,if_neg (by simp),if_neg (fun hh => hh h2)]
 rw [decide_eq_true h3,zc10,zq356,zq411 hc,zq332,e0]
 unfold chkN
 by_cases h4 : zq398 ep l a (cs.getD 0 []) = 0
 rotate_left
 ·rw [if_pos h4,if_pos h4]; rfl
 have n4 : ¬ zq398 ep l a (cs.getD 0 []) ≠ 0 := fun hh => hh h4
 rw [if_neg n4,if_neg n4]
 by_cases h5 : zq398 ep l b (cs.getD 1 []) = 0
 rotate_left
 ·rw [if_pos h5,if_pos h5]; rfl
 have n5 : ¬ zq398 ep l b (cs.getD 1 []) ≠ 0 := fun hh => hh h5
 rw [if_neg n5,if_neg n5]
 simp only [sumC,iL0,iL1,zq1466,g20,g21,zq332]
 have key : ∀ {X : Type} (f : Bool → Option X),(br (!decide (a = 0)) (some (decide (a = b))) (some false)).bind f = f (decide (a ≠ 0 ∧ a = b)) := by
  intro X f
  have e1 : decide (a ≠ 0 ∧ a = b) = (!decide (a = 0) && decide (a = b)) := by rw [Bool.decide_and,decide_not]
  rw [e1]
  cases decide (a = 0) <;> cases decide (a = b) <;> rfl
 rw [key]
 by_cases h6 : a ≠ 0 ∧ a = b
 ·rw [decide_eq_true h6,zq358,if_pos h6]
 rw [decide_eq_false h6,zq356,if_neg h6,zq410,zq332]
 by_cases h7 : a ≠ 0 ∧ a = ep ∧ h ≠ 1
 ·rw [if_pos h7,if_pos h7]
 rw [if_neg h7,if_neg h7]
 by_cases h8 : b ≠ 0 ∧ b = ep ∧ h ≠ 2
 ·rw [if_pos h8,if_pos h8]
 rw [if_neg h8,if_neg h8]
theorem zq56 (now ep h u : Int) {l : List En} (hl : logIn l) (hlen : l.length < 9223372036854775808) (es : List Int) {cs : List (List En)} (hc : ∀ c ∈ cs,logIn c) : zq58 now ep h u l (es,cs) = some (chkC now ep h u l es cs,()) := by
 unfold zq58
 rw [zq157,zq332,zq65 ep h u hl hlen,zq332]
 cases hb : betw now 0 9999
 ·unfold chkC; rw [hb,if_pos rfl]; rfl
 simp only [zc10,zq356]
 by_cases h2 : zq384 ep h u l = 0
 rotate_left
 ·rw [decide_eq_false h2,zc19,zq358]; unfold chkC; rw [hb,if_neg (by simp),if_pos h2]
 rw [decide_eq_true h2,zc10,zq356]
 by_cases h3 : lenL es = 2
 rotate_left
 ·rw [decide_eq_false h3,zc19,zq358,zq382 hb h2 h3]
 obtain ⟨a,b,rfl⟩ := zq1783 h3
 have e0 : chkC now ep h u l [a,b] cs = chkN ep h l a b (cs.getD 0 []) (cs.getD 1 []) := by unfold chkC; rw [hb,if_neg (by simp),if_neg (fun hh => hh h2)]
 rw [decide_eq_true h3,zc10,zq356,zq1427 hc,zq332,e0]
 unfold chkN
 by_cases h4 : zq398 ep l a (cs.getD 0 []) = 0
 rotate_left
 ·rw [if_pos h4,if_pos h4]; rfl
 have n4 : ¬ zq398 ep l a (cs.getD 0 []) ≠ 0 := fun hh => hh h4
 rw [if_neg n4,if_neg n4]
 by_cases h5 : zq398 ep l b (cs.getD 1 []) = 0
 rotate_left
 ·rw [if_pos h5,if_pos h5]; rfl
 have n5 : ¬ zq398 ep l b (cs.getD 1 []) ≠ 0 := fun hh => hh h5
 rw [if_neg n5,if_neg n5]
 simp only [sumC,iL0,iL1,zq1466,g20,g21,zq332]
 have key : ∀ {X : Type} (f : Bool → Option X),(br (decide (a = b)) (some (!decide (a = 0))) (some false)).bind f = f (decide (a ≠ 0 ∧ a = b)) := by
  intro X f
  have e1 : decide (a ≠ 0 ∧ a = b) = (!decide (a = 0) && decide (a = b)) := by rw [Bool.decide_and,decide_not]
  rw [e1]
  cases decide (a = 0) <;> cases decide (a = b) <;> rfl
 rw [key]
 by_cases h6 : a ≠ 0 ∧ a = b
 ·rw [decide_eq_true h6,zq358,if_pos h6]
 rw [decide_eq_false h6,zq356,if_neg h6,zq1426,zq332]
 by_cases h7 : a ≠ 0 ∧ a = ep ∧ h ≠ 1
 ·rw [if_pos h7,if_pos h7]
 rw [if_neg h7,if_neg h7]
 by_cases h8 : b ≠ 0 ∧ b = ep ∧ h ≠ 2
 ·rw [if_pos h8,if_pos h8]
 rw [if_neg h8,if_neg h8]
def evF (k k1 k3 k4 w0 n0 o0 w n30 nt : Bool) : Int :=
 bif !k then 7 else bif (k1 && !w0) || (!k1 && !k4 && !n0) || (!k3 && !o0) then 1 else bif (!k1 && !w) || (k4 && !n30) || (k1 && !nt) then 3 else 0
def noOq : Oq := ⟨0,⟨⟨false,0,0⟩,0⟩,⟨false,0,0⟩,ByteArray.empty,0,0⟩
def formE (now : Int) (x : Ev) : Int := evF (betw x.kind 1 5) (decide (x.kind = 1)) (decide (x.kind = 3)) (decide (x.kind = 4)) (decide (x.who = 0)) (decide (x.n = 0)) (eqOq x.op noOq) (betw x.who 1 2) (betw x.n 0 30) (betw x.n 0 (9999 - now))
theorem zq475 {now : Int} (h0 : 0 ≤ now) (h1 : now ≤ 9999) (x : Ev) : zq477 now x = some (formE now x,()) := by
 have hr : i64ok (9999 - now) = true := zq747 (by omega) (by omega)
 unfold zq477 formE
 simp only [zq487,zq332,hr,zq1466]
 rw [show (⟨0,⟨⟨false,0,0⟩,0⟩,⟨false,0,0⟩,ByteArray.empty,0,0⟩ : Oq) = noOq from rfl]
 generalize betw x.kind 1 5 = k
 generalize decide (x.kind = 1) = k1
 generalize decide (x.kind = 3) = k3
 generalize decide (x.kind = 4) = k4
 generalize decide (x.who = 0) = w0
 generalize decide (x.n = 0) = n0
 generalize eqOq x.op noOq = o0
 generalize betw x.who 1 2 = w
 generalize betw x.n 0 30 = n30
 generalize betw x.n 0 (9999 - now) = nt
 clear hr
 revert k k1 k3 k4 w0 n0 o0 w n30 nt
 decide +kernel
theorem zq1253 (n m : Int) : (br (decide (n < 0)) (some true) (some (decide (n > m)))) = some (!betw n 0 m) := by
 unfold betw
 by_cases h1 : n < 0
 ·rw [decide_eq_true h1,zq358,decide_eq_false (show ¬ 0 ≤ n by omega)]; rfl
 ·rw [decide_eq_false h1,zq356,decide_eq_true (show 0 ≤ n by omega),Bool.true_and]
  by_cases h2 : n > m
  ·rw [decide_eq_true h2,decide_eq_false (show ¬ n ≤ m by omega)]; rfl
  ·rw [decide_eq_false h2,decide_eq_true (show n ≤ m by omega)]; rfl
theorem zq71 {now : Int} (h0 : 0 ≤ now) (h1 : now ≤ 9999) (x : Ev) : zq73 now x = some (formE now x,()) := by
 have hr : i64ok (9999 - now) = true := zq747 (by omega) (by omega)
 unfold zq73 formE
 simp only [zq157,zq332,hr,zq1466,zq1253]
 rw [show (⟨0,⟨⟨false,0,0⟩,0⟩,⟨false,0,0⟩,ByteArray.empty,0,0⟩ : Oq) = noOq from rfl]
 generalize betw x.kind 1 5 = k
 generalize decide (x.kind = 1) = k1
 generalize decide (x.kind = 3) = k3
 generalize decide (x.kind = 4) = k4
 generalize decide (x.who = 0) = w0
 generalize decide (x.n = 0) = n0
 generalize eqOq x.op noOq = o0
 generalize betw x.who 1 2 = w
 generalize betw x.n 0 30 = n30
 generalize betw x.n 0 (9999 - now) = nt
 clear hr
 revert k k1 k3 k4 w0 n0 o0 w n30 nt
 decide +kernel
end Go.Ma
namespace Go.Ma
open Go
structure COk (now ep h u : Int) (l : List En) (a b : Int) (x y : List En) : Prop where
 time : 0 ≤ now ∧ now ≤ 9999
 disk : zq384 ep h u l = 0
 n1 : zq398 ep l a x = 0
 n2 : zq398 ep l b y = 0
 ne : ¬ (a ≠ 0 ∧ a = b)
 o1 : ¬ (a ≠ 0 ∧ a = ep ∧ h ≠ 1)
 o2 : ¬ (b ≠ 0 ∧ b = ep ∧ h ≠ 2)
theorem zq381 {now ep h u : Int} {l : List En} {a b : Int} {x y : List En} : chkC now ep h u l [a,b] [x,y] = 0 ↔ COk now ep h u l a b x y := by
 have e0 : ([x,y] : List (List En)).getD 0 [] = x := rfl
 have e1 : ([x,y] : List (List En)).getD 1 [] = y := rfl
 unfold chkC chkN
 simp only [e0,e1]
 cases hb : betw now 0 9999
 ·rw [if_pos rfl]
  exact ⟨(fun hh => by cases hh),fun hh => by rw [zq329.2 hh.time] at hb; cases hb⟩
 rw [if_neg (by simp)]
 by_cases h2 : zq384 ep h u l = 0
 rotate_left
 ·rw [if_pos h2]; exact ⟨fun hh => absurd hh h2,fun hh => absurd hh.disk h2⟩
 rw [if_neg (fun hh => hh h2)]
 by_cases h3 : zq398 ep l a x = 0
 rotate_left
 ·rw [if_pos h3]; exact ⟨fun hh => absurd hh h3,fun hh => absurd hh.n1 h3⟩
 rw [if_neg (fun hh => hh h3)]
 by_cases h4 : zq398 ep l b y = 0
 rotate_left
 ·rw [if_pos h4]; exact ⟨fun hh => absurd hh h4,fun hh => absurd hh.n2 h4⟩
 rw [if_neg (fun hh => hh h4)]
 by_cases h5 : a ≠ 0 ∧ a = b
 ·rw [if_pos h5]; exact ⟨(fun hh => by cases hh),fun hh => absurd h5 hh.ne⟩
 rw [if_neg h5]
 by_cases h6 : a ≠ 0 ∧ a = ep ∧ h ≠ 1
 ·rw [if_pos h6]; exact ⟨(fun hh => by cases hh),fun hh => absurd h6 hh.o1⟩
 rw [if_neg h6]
 by_cases h7 : b ≠ 0 ∧ b = ep ∧ h ≠ 2
 ·rw [if_pos h7]; exact ⟨(fun hh => by cases hh),fun hh => absurd h7 hh.o2⟩
 rw [if_neg h7]
 exact ⟨fun _ => ⟨zq329.1 hb,h2,h3,h4,h5,h6,h7⟩,fun _ => rfl⟩
theorem zq383 {now ep h u : Int} {l : List En} {es : List Int} {cs : List (List En)} (hlen : cs.length = es.length) (hc : chkC now ep h u l es cs = 0) : ∃ a b x y,es = [a,b] ∧ cs = [x,y] ∧ COk now ep h u l a b x y := by
 have h2 : lenL es = 2 := by
  by_cases hb : betw now 0 9999 = true
  ·by_cases hd : zq384 ep h u l = 0
   ·by_cases h3 : lenL es = 2
    ·exact h3
    ·rw [zq382 hb hd h3] at hc; cases hc
   ·unfold chkC at hc; rw [if_neg (by simp [hb]),if_pos hd] at hc; exact absurd hc hd
  ·unfold chkC at hc; rw [if_pos (by simpa using hb)] at hc; cases hc
 obtain ⟨a,b,rfl⟩ := zq1783 h2
 match cs,hlen with
 | [x,y],_ => exact ⟨a,b,x,y,rfl,rfl,zq381.1 hc⟩
theorem zq1156 {ep : Int} {l : List En} {e : Int} {c : List En} (h : zq398 ep l e c = 0) : 0 ≤ e ∧ e ≤ ep ∧ zq386 c = 0 ∧ zq312 c l = true := by
 unfold zq398 at h
 cases hb : betw e 0 ep
 ·rw [hb,if_pos rfl] at h; cases h
 rw [hb,if_neg (by simp)] at h
 by_cases h1 : zq386 c = 0
 rotate_left
 ·rw [if_pos h1] at h; exact absurd h h1
 rw [if_neg (fun hh => hh h1)] at h
 cases hg : zq312 c l
 ·rw [hg,if_pos rfl] at h; cases h
 obtain ⟨g1,g2⟩ := zq329.1 hb
 exact ⟨g1,g2,h1,rfl⟩
theorem zq691 {now : Int} {x : Ev} (h : formE now x = 0) : betw x.kind 1 5 = true ∧ (x.kind = 1 → x.who = 0 ∧ 0 ≤ x.n ∧ x.n ≤ 9999 - now) ∧ (x.kind ≠ 1 → x.who = 1 ∨ x.who = 2) ∧ (x.kind = 4 → 0 ≤ x.n ∧ x.n ≤ 30) ∧ (x.kind ≠ 1 → x.kind ≠ 4 → x.n = 0) := by
 unfold formE evF at h
 cases hk : betw x.kind 1 5
 ·rw [hk] at h; cases h
 rw [hk] at h
 simp only [zc10,cond_false] at h
 cases h1 : ((decide (x.kind = 1) && !decide (x.who = 0)) || (!decide (x.kind = 1) && !decide (x.kind = 4) && !decide (x.n = 0)) || (!decide (x.kind = 3) && !eqOq x.op noOq))
 rotate_left
 ·rw [h1] at h; cases h
 rw [h1,cond_false] at h
 cases h2 : ((!decide (x.kind = 1) && !betw x.who 1 2) || (decide (x.kind = 4) && !betw x.n 0 30) || (decide (x.kind = 1) && !betw x.n 0 (9999 - now)))
 rotate_left
 ·rw [h2] at h; cases h
 simp only [Bool.or_eq_false_iff,Bool.and_eq_false_iff,Bool.not_eq_false',decide_eq_false_iff_not,decide_eq_true_eq] at h1 h2
 obtain ⟨⟨a1,a2⟩,_⟩ := h1
 obtain ⟨⟨b1,b2⟩,b3⟩ := h2
 refine ⟨rfl,fun k => ?_,fun k => ?_,fun k => ?_,fun k k4 => ?_⟩
 ·have c1 := a1.resolve_left (fun hh => hh k)
  have c2 := zq329.1 (b3.resolve_left (fun hh => hh k))
  exact ⟨c1,c2⟩
 ·have c1 := zq329.1 (b1.resolve_left k)
  omega
 ·exact zq329.1 (b2.resolve_left (fun hh => hh k))
 ·rcases a2 with (a2 | a2) | a2
  ·exact absurd a2 k
  ·exact absurd a2 k4
  ·exact a2
def noCl : CluV := (0,0,0,0,[],([],[]),())
def mkCl (now : Int) (d : Dk) (a b : Int) (x y : List En) : CluV := (now,d.1,d.2.1,d.2.2.1,d.2.2.2.1,([a,b],[x,y]),())
def evDo (now ep h u : Int) (l : List En) (a b : Int) (x y : List En) (e : Ev) : CluV × Bool :=
 if e.kind = 1 then (mkCl (now + e.n) (ep,h,u,l,()) a b x y,true)
 else if e.kind = 2 then
  if (acqOf ep h u l e.who now).2.1 = 0 then (mkCl now (acqOf ep h u l e.who now).1 (if e.who = 1 then (acqOf ep h u l e.who now).1.1 else a) (if e.who = 1 then b else (acqOf ep h u l e.who now).1.1) x y,true)
  else (mkCl now (ep,h,u,l,()) a b x y,false)
 else if e.kind = 3 then
  if (putOf ep h u l (if e.who = 1 then a else b) e.op).2.1 = 0 then (mkCl now (putOf ep h u l (if e.who = 1 then a else b) e.op).1 a b x y,true)
  else (mkCl now (ep,h,u,l,()) a b x y,false)
 else if e.kind = 4 then (mkCl now (ep,h,u,l,()) a b (if e.who = 1 then x ++ zq324 x l e.n else x) (if e.who = 1 then y else y ++ zq324 y l e.n),true)
 else (mkCl now (ep,h,u,l,()) (if e.who = 1 then 0 else a) (if e.who = 1 then b else 0) (if e.who = 1 then [] else x) (if e.who = 1 then y else []),true)
abbrev DoC := CluV × Bool × Int × Unit
def errC (e : Int) : DoC := (noCl,false,e,())
def doC (now ep h u : Int) (l : List En) (es : List Int) (cs : List (List En)) (e : Ev) : DoC :=
 if chkC now ep h u l es cs ≠ 0 then errC (chkC now ep h u l es cs) else if formE now e ≠ 0 then errC (formE now e) else
 match es,cs with
 | [a,b],[x,y] => ((evDo now ep h u l a b x y e).1,(evDo now ep h u l a b x y e).2,0,())
 | _,_ => errC 1
theorem rm0 (a : Int) : room (lenL ([] : List Int)) (lenL [a]) = true := rfl
theorem rm1 (a b : Int) : room (lenL [a]) (lenL [b]) = true := rfl
theorem rm2 (a b : Int) : room (lenL ([] : List Int)) (lenL [a,b]) = true := rfl
theorem pd0 : padL ([] : List Int).length ([] : List (List En)) = [] := rfl
theorem pd1 (a : Int) (x : List En) : padL [a].length [x] = [x] := rfl
theorem pd2 (a b : Int) (x y : List En) : padL [a,b].length [x,y] = [x,y] := rfl
theorem ap1 (a b : Int) : [a] ++ [b] = [a,b] := rfl
theorem ap2 (x y : List En) : [x] ++ [y] = [x,y] := rfl
theorem gx0 (x y : List En) : getL [x,y] 0 = x := rfl
theorem gx1 (x y : List En) : getL [x,y] 1 = y := rfl
theorem st0 (a b v : Int) : seti [a,b] 0 v = [v,b] := rfl
theorem st1 (a b v : Int) : seti [a,b] 1 v = [a,v] := rfl
theorem sx0 (x y z : List En) : seti [x,y] 0 z = [z,y] := rfl
theorem sx1 (x y z : List En) : seti [x,y] 1 z = [x,z] := rfl
theorem ox0 (x y : List En) : outL [x,y] 0 = [[],y] := rfl
theorem ox1 (x y : List En) : outL [x,y] 1 = [x,[]] := rfl
abbrev DOwn := List En × List (List En) × List Int × (Int × Int × Int × Int × Unit) × (Ev × Unit) × (Int × Int × Int × Int × Unit) × List En × List Int × List (List En) × (Int × Int × Int × Int × Unit) × List En × List Int × List (List En) × Unit
theorem zq1266 {now ep h u n1 e1 h1 u1 : Int} {l l1 : List En} {a b : Int} {x y : List En} (hx : x.length ≤ 30) (hy : y.length ≤ 30) (e : Ev) :
  loopN zq440 FUEL (((),(),(lenL [a,b],()),(0,()),()),((l,[x,y],[a,b],(now,ep,h,u,()),(e,()),(0,0,0,0,()),[],[],[],(n1,e1,h1,u1,()),l1,[],[],()) : DOwn)) =
   some (((),()),((l,[x,y],[a,b],(now,ep,h,u,()),(e,()),(0,0,0,0,()),[],[],[],(n1,e1,h1,u1,()),l1,[a,b],[x,y],()) : DOwn)) := by
 obtain ⟨N,hN⟩ := fuel3
 have cx : zq1594 x = some (x,()) := zq416 (by omega)
 have cy : zq1594 y = some (y,()) := zq416 (by omega)
 rw [hN,zq1083]
 simp only [zq440,dL0,d02,zq358,iL0,zq1466,g20,zq332,gx0,cx,zq553,zq354,e01,ok1,rm0,zc42,pd0]
 rw [zq1083]
 simp only [zq440,dL1,d12,zq358,iL1,zq1466,g21,zq332,gx1,cy,zq553,zq354,e11,ok2,rm1,pd1,ap1,ap2]
 rw [zq1083]
 simp only [zq440,dL2,d22,zq356]
theorem zq320 {a b : List En} (h : zq312 a b = true) : a.length ≤ b.length := zq321 h
theorem zq449 (now ep h u : Int) {l : List En} (hl : logIn l) (es : List Int) {cs : List (List En)} (hc : ∀ c ∈ cs,logIn c) (hlen : cs.length = es.length) {e : Ev} (he : e.In) : zq451 now ep h u l (es,cs) e = some (doC now ep h u l es cs e) := by
 unfold zq451
 rw [zq430 now ep h u hl es hc,zq332]
 unfold doC
 by_cases h0 : chkC now ep h u l es cs = 0
 rotate_left
 ·rw [decide_eq_false h0,zq356,zq332,if_pos h0]
  simp only [h0,decide_false,zc19,zq358]
  rfl
 obtain ⟨a,b,x,y,rfl,rfl,ok⟩ := zq383 hlen h0
 rw [decide_eq_true h0,zq358,if_neg (fun hh => hh h0),zq475 ok.time.1 ok.time.2,zq332,zq332]
 simp only
 by_cases hf : formE now e = 0
 rotate_left
 ·rw [decide_eq_false hf,zc19,zq358,if_pos hf]; rfl
 obtain ⟨d1,_,_,_,d5,_⟩ := zq385 ok.disk
 have hll := zq390 d5
 obtain ⟨_,_,x1,x2⟩ := zq1156 ok.n1
 obtain ⟨_,_,y1,y2⟩ := zq1156 ok.n2
 have hxl := zq390 x1
 have hyl := zq390 y1
 have hxb := zq320 x2
 have hyb := zq320 y2
 obtain ⟨f1,f2,f3,f4,_⟩ := zq691 hf
 obtain ⟨t1,t2⟩ := ok.time
 rw [decide_eq_true hf,zc10,zq356,if_neg (fun hh => hh hf),zq630 ep h u (by omega),zq332,zq1266 hxl hyl,zq332]
 simp only
 unfold evDo
 by_cases k1 : e.kind = 1
 ·obtain ⟨_,n1,n2⟩ := f2 k1
  rw [decide_eq_true k1,zq358,if_pos k1,zq1463 (zq747 (by omega) (by omega))]
  rfl
 rw [decide_eq_false k1,zq356,if_neg k1]
 have hw := f3 k1
 rw [zq1463 (zq747 (by omega) (by omega))]
 have hz : ∀ z : Int,decide (z = z) = true := fun z => decide_eq_true rfl
 have z0 : decide ((0 : Int) ≤ 0) = true := rfl
 have z1 : decide ((0 : Int) ≤ 1) = true := rfl
 rcases hw with hw | hw
 ·have hi : e.who - 1 = 0 := by omega
  simp only [hi,iL0,zq1466,g20,zq332,gx0,st0,sx0,ox0,pd2,zq553,hz,z0]
  simp only [if_pos hw]
  by_cases k2 : e.kind = 2
  ·rw [decide_eq_true k2,zq358,if_pos k2,zq624 ep h u (by omega) _ _ d1.1 d1.2 t1 t2,zq332]
   by_cases h4 : (acqOf ep h u l e.who now).2.1 = 0
   ·rw [decide_eq_true h4,zq358,zq358,if_pos h4]; rfl
   ·rw [decide_eq_false h4,zq356,zq356,if_neg h4]; rfl
  rw [decide_eq_false k2,zq356,if_neg k2]
  by_cases k3 : e.kind = 3
  ·rw [decide_eq_true k3,zq358,if_pos k3,zq636 ep h u hll _ he.2.2.2,zq332]
   by_cases h4 : (putOf ep h u l a e.op).2.1 = 0
   ·rw [decide_eq_true h4,zq358,if_pos h4]; rfl
   ·rw [decide_eq_false h4,zq356,if_neg h4]; rfl
  rw [decide_eq_false k3,zq356,if_neg k3]
  by_cases k4 : e.kind = 4
  ·obtain ⟨n1,n2⟩ := f4 k4
   rw [decide_eq_true k4,zq358,if_pos k4,zq1546 hxl hll hxb n1 n2,zq332]
   have hbl : (zq324 x l e.n).length ≤ 30 := by unfold zq324; rw [zc20]; omega
   rw [zq1463 (zq1488 (zq989 _) (zq989 _) (by unfold lenL; simp only; omega))]
   rfl
  rw [decide_eq_false k4,zq356,if_neg k4,decide_eq_true (show e.kind = 5 by have := zq329.1 f1; omega),zq358]
  rfl
 ·have hi : e.who - 1 = 1 := by omega
  have hw1 : ¬ e.who = 1 := by omega
  simp only [hi,iL1,zq1466,g21,zq332,gx1,st1,sx1,ox1,pd2,zq553,hz,z1]
  simp only [if_neg hw1]
  by_cases k2 : e.kind = 2
  ·rw [decide_eq_true k2,zq358,if_pos k2,zq624 ep h u (by omega) _ _ d1.1 d1.2 t1 t2,zq332]
   by_cases h4 : (acqOf ep h u l e.who now).2.1 = 0
   ·rw [decide_eq_true h4,zq358,zq358,if_pos h4]; rfl
   ·rw [decide_eq_false h4,zq356,zq356,if_neg h4]; rfl
  rw [decide_eq_false k2,zq356,if_neg k2]
  by_cases k3 : e.kind = 3
  ·rw [decide_eq_true k3,zq358,if_pos k3,zq636 ep h u hll _ he.2.2.2,zq332]
   by_cases h4 : (putOf ep h u l b e.op).2.1 = 0
   ·rw [decide_eq_true h4,zq358,if_pos h4]; rfl
   ·rw [decide_eq_false h4,zq356,if_neg h4]; rfl
  rw [decide_eq_false k3,zq356,if_neg k3]
  by_cases k4 : e.kind = 4
  ·obtain ⟨n1,n2⟩ := f4 k4
   rw [decide_eq_true k4,zq358,if_pos k4,zq1546 hyl hll hyb n1 n2,zq332]
   have hbl : (zq324 y l e.n).length ≤ 30 := by unfold zq324; rw [zc20]; omega
   rw [zq1463 (zq1488 (zq989 _) (zq989 _) (by unfold lenL; simp only; omega))]
   rfl
  rw [decide_eq_false k4,zq356,if_neg k4,decide_eq_true (show e.kind = 5 by have := zq329.1 f1; omega),zq358]
  rfl
theorem zq11 {ep h u : Int} (l : List En) (who now : Int) (h0 : 0 ≤ ep) (h1 : ep ≤ 999) (n0 : 0 ≤ now) (n1 : now ≤ 9999) : zq13 ep h u l who now = some (acqOf ep h u l who now) := by
 unfold zq13
 rw [zq222 l who now h1,br_sb,zq332,zq1463 (zq747 (by omega) (by omega)),zq1463 (zq747 (by omega) (by omega))]
 have e1 : (bif !decide (h = 0) then decide (u ≥ now) else false) = (!decide (h = 0) && decide (u ≥ now)) := by cases decide (h = 0) <;> rfl
 rw [e1]
 simp only
 generalize (!decide (h = 0) && decide (u ≥ now)) = held
 cases held
 ·simp only [zq356,zq332,zc16,false_and,if_false,if_true,zc19,zq358]
  by_cases k : ep + 1 > 999
  ·rw [decide_eq_true k,zq358,if_pos k]; rfl
  ·rw [decide_eq_false k,zq356,if_neg k]
 ·simp only [zq358,zq332,true_and,zc10,zq356,Bool.true_eq_false,if_false]
  by_cases k : h = who
  ·rw [decide_eq_true k,zc10,zq356,if_neg (fun hh => hh k)]
   have : ¬ ep > 999 := by omega
   rw [decide_eq_false this,zq356,if_neg this,zq1463 (zq747 (by omega) (by omega))]
  ·rw [decide_eq_false k,zc19,zq358,if_pos k]; rfl
theorem zq107 {now ep h u : Int} {l : List En} {a b : Int} {x y : List En} (ok : COk now ep h u l a b x y) {e : Ev} (he : e.In) (hf : formE now e = 0) : zq109 now ep h u l ([a,b],[x,y]) e = some ((evDo now ep h u l a b x y e).1,(evDo now ep h u l a b x y e).2,()) := by
 obtain ⟨d1,_,_,_,d5,_⟩ := zq385 ok.disk
 have hll := zq390 d5
 obtain ⟨_,_,x1,x2⟩ := zq1156 ok.n1
 obtain ⟨_,_,y1,y2⟩ := zq1156 ok.n2
 have hxl := zq390 x1
 have hyl := zq390 y1
 have hxb := zq320 x2
 have hyb := zq320 y2
 obtain ⟨f1,f2,f3,f4,_⟩ := zq691 hf
 obtain ⟨t1,t2⟩ := ok.time
 have hwb : -9223372036854775807 ≤ e.who := by
  by_cases k1 : e.kind = 1
  ·have := (f2 k1).1; omega
  ·have := f3 k1; omega
 have hwb2 : e.who ≤ 2 := by
  by_cases k1 : e.kind = 1
  ·have := (f2 k1).1; omega
  ·have := f3 k1; omega
 unfold zq109 evDo
 simp only [zc42,rm2,zq1466,pd0]
 rw [zq1463 (zq747 (by omega) (by omega))]
 by_cases k1 : e.kind = 1
 ·obtain ⟨_,n1,n2⟩ := f2 k1
  rw [decide_eq_true k1,zq358,if_pos k1,zq1463 (zq747 (by omega) (by omega))]
  rfl
 rw [decide_eq_false k1,zq356,if_neg k1]
 have hw := f3 k1
 have rx : ∀ c : List En,c.length ≤ 30 → room (lenL ([] : List En)) (lenL c) = true := fun c hc => zq1488 (zq989 _) (zq989 _) (by unfold lenL; simp; omega)
 rcases hw with hw | hw
 ·have hi : e.who - 1 = 0 := by omega
  simp only [hi,iL0,zq1466,g20,zq332,gx0,st0,sx0,pd2,zq553,rx x hxl,zq354]
  simp only [if_pos hw]
  by_cases k2 : e.kind = 2
  ·rw [decide_eq_true k2,zq358,if_pos k2,zq11 l _ _ d1.1 d1.2 t1 t2,zq332]
   by_cases h4 : (acqOf ep h u l e.who now).2.1 = 0
   ·rw [decide_eq_true h4,zc10,zq356,if_pos h4]; rfl
   ·rw [decide_eq_false h4,zc19,zq358,if_neg h4]; rfl
  rw [decide_eq_false k2,zq356,if_neg k2]
  by_cases k3 : e.kind = 3
  ·rw [decide_eq_true k3,zq358,if_pos k3,zq151 ep h u hll _ he.2.2.2,zq332]
   by_cases h4 : (putOf ep h u l a e.op).2.1 = 0
   ·rw [decide_eq_true h4,zc10,zq356,if_pos h4]; rfl
   ·rw [decide_eq_false h4,zc19,zq358,if_neg h4]; rfl
  rw [decide_eq_false k3,zq356,if_neg k3]
  by_cases k4 : e.kind = 4
  ·obtain ⟨n1,n2⟩ := f4 k4
   have hbl : (zq324 x l e.n).length ≤ 30 := by unfold zq324; rw [zc20]; omega
   have r2 : room (lenL x) (lenL (zq324 x l e.n)) = true := zq1488 (zq989 _) (zq989 _) (by unfold lenL; omega)
   rw [decide_eq_true k4,zq358,if_pos k4]
   simp only [zq26 hxl hll hxb n1 n2,zq332,r2,zq1466,zq354]
   rfl
  rw [decide_eq_false k4,zq356,if_neg k4,decide_eq_true (show e.kind = 5 by have := zq329.1 f1; omega),zq358]
  rfl
 ·have hi : e.who - 1 = 1 := by omega
  have hw1 : ¬ e.who = 1 := by omega
  simp only [hi,iL1,zq1466,g21,zq332,gx1,st1,sx1,pd2,zq553,rx y hyl,zq354]
  simp only [if_neg hw1]
  by_cases k2 : e.kind = 2
  ·rw [decide_eq_true k2,zq358,if_pos k2,zq11 l _ _ d1.1 d1.2 t1 t2,zq332]
   by_cases h4 : (acqOf ep h u l e.who now).2.1 = 0
   ·rw [decide_eq_true h4,zc10,zq356,if_pos h4]; rfl
   ·rw [decide_eq_false h4,zc19,zq358,if_neg h4]; rfl
  rw [decide_eq_false k2,zq356,if_neg k2]
  by_cases k3 : e.kind = 3
  ·rw [decide_eq_true k3,zq358,if_pos k3,zq151 ep h u hll _ he.2.2.2,zq332]
   by_cases h4 : (putOf ep h u l b e.op).2.1 = 0
   ·rw [decide_eq_true h4,zc10,zq356,if_pos h4]; rfl
   ·rw [decide_eq_false h4,zc19,zq358,if_neg h4]; rfl
  rw [decide_eq_false k3,zq356,if_neg k3]
  by_cases k4 : e.kind = 4
  ·obtain ⟨n1,n2⟩ := f4 k4
   have hbl : (zq324 y l e.n).length ≤ 30 := by unfold zq324; rw [zc20]; omega
   have r2 : room (lenL y) (lenL (zq324 y l e.n)) = true := zq1488 (zq989 _) (zq989 _) (by unfold lenL; omega)
   rw [decide_eq_true k4,zq358,if_pos k4]
   simp only [zq26 hyl hll hyb n1 n2,zq332,r2,zq1466,zq354]
   rfl
  rw [decide_eq_false k4,zq356,if_neg k4,decide_eq_true (show e.kind = 5 by have := zq329.1 f1; omega),zq358]
  rfl
end Go.Ma
namespace Go.Ma
open Go
abbrev CS := Int × Dk × Int × Int × List En × List En
def clOf (s : CS) : CluV := mkCl s.1 s.2.1 s.2.2.1 s.2.2.2.1 s.2.2.2.2.1 s.2.2.2.2.2
def evS (s : CS) (e : Ev) : CS × Bool :=
 if e.kind = 1 then ((s.1 + e.n,s.2),true)
 else if e.kind = 2 then
  if (acqOf s.2.1.1 s.2.1.2.1 s.2.1.2.2.1 s.2.1.2.2.2.1 e.who s.1).2.1 = 0 then
   ((s.1,(acqOf s.2.1.1 s.2.1.2.1 s.2.1.2.2.1 s.2.1.2.2.2.1 e.who s.1).1,if e.who = 1 then (acqOf s.2.1.1 s.2.1.2.1 s.2.1.2.2.1 s.2.1.2.2.2.1 e.who s.1).1.1 else s.2.2.1,if e.who = 1 then s.2.2.2.1 else (acqOf s.2.1.1 s.2.1.2.1 s.2.1.2.2.1 s.2.1.2.2.2.1 e.who s.1).1.1,s.2.2.2.2),true)
  else (s,false)
 else if e.kind = 3 then
  if (putOf s.2.1.1 s.2.1.2.1 s.2.1.2.2.1 s.2.1.2.2.2.1 (if e.who = 1 then s.2.2.1 else s.2.2.2.1) e.op).2.1 = 0 then ((s.1,(putOf s.2.1.1 s.2.1.2.1 s.2.1.2.2.1 s.2.1.2.2.2.1 (if e.who = 1 then s.2.2.1 else s.2.2.2.1) e.op).1,s.2.2),true)
  else (s,false)
 else if e.kind = 4 then ((s.1,s.2.1,s.2.2.1,s.2.2.2.1,if e.who = 1 then s.2.2.2.2.1 ++ zq324 s.2.2.2.2.1 s.2.1.2.2.2.1 e.n else s.2.2.2.2.1,if e.who = 1 then s.2.2.2.2.2 else s.2.2.2.2.2 ++ zq324 s.2.2.2.2.2 s.2.1.2.2.2.1 e.n),true)
 else ((s.1,s.2.1,if e.who = 1 then 0 else s.2.2.1,if e.who = 1 then s.2.2.2.1 else 0,if e.who = 1 then [] else s.2.2.2.2.1,if e.who = 1 then s.2.2.2.2.2 else []),true)
theorem zq585 (now ep h u : Int) (l : List En) (a b : Int) (x y : List En) (e : Ev) : evDo now ep h u l a b x y e = (clOf (evS (now,(ep,h,u,l,()),a,b,x,y) e).1,(evS (now,(ep,h,u,l,()),a,b,x,y) e).2) := by
 unfold evDo evS
 by_cases k1 : e.kind = 1
 ·simp only [if_pos k1]; rfl
 by_cases k2 : e.kind = 2
 ·by_cases h0 : (acqOf ep h u l e.who now).2.1 = 0
  ·simp only [if_neg k1,if_pos k2,if_pos h0]; rfl
  ·simp only [if_neg k1,if_pos k2,if_neg h0]; rfl
 by_cases k3 : e.kind = 3
 ·by_cases h0 : (putOf ep h u l (if e.who = 1 then a else b) e.op).2.1 = 0
  ·simp only [if_neg k1,if_neg k2,if_pos k3,if_pos h0]; rfl
  ·simp only [if_neg k1,if_neg k2,if_pos k3,if_neg h0]; rfl
 by_cases k4 : e.kind = 4
 ·simp only [if_neg k1,if_neg k2,if_neg k3,if_pos k4]; rfl
 ·simp only [if_neg k1,if_neg k2,if_neg k3,if_neg k4]; rfl
def COkS (s : CS) : Prop := COk s.1 s.2.1.1 s.2.1.2.1 s.2.1.2.2.1 s.2.1.2.2.2.1 s.2.2.1 s.2.2.2.1 s.2.2.2.2.1 s.2.2.2.2.2 ∧ logIn s.2.1.2.2.2.1
theorem zq1155 {ep : Int} {l : List En} {e : Int} {c : List En} (h0 : 0 ≤ e) (h1 : e ≤ ep) (h2 : zq386 c = 0) (h3 : zq312 c l = true) : zq398 ep l e c = 0 := by
 unfold zq398
 rw [zq329.2 ⟨h0,h1⟩,if_neg (by simp),if_neg (fun hh => hh h2),h3,if_neg (by simp)]
theorem zq322 {c l m : List En} (h : zq312 c l = true) : zq312 c (l ++ m) = true := by
 have h1 := zq321 h
 have h2 := zq318 h
 unfold zq312
 rw [decide_eq_true (show c.length ≤ (l ++ m).length by simp; omega),List.take_append_of_le_length h1,← h2]
 simp
theorem zq323 (l : List En) : zq312 [] l = true := by unfold zq312; simp
theorem zq319 {c l : List En} (h : zq312 c l = true) (hl : logIn l) : logIn c := by
 rw [zq318 h]; exact zq1772 hl _
theorem zq1570 {x l : List En} (hb : zq312 x l = true) {n : Int} (n0 : 0 ≤ n) : x ++ zq324 x l n = l.take (x.length + n.toNat) := by
 have hk := zq321 hb
 have h1 := (zq325 l x.length hk n.toNat).2
 have e := zq318 hb
 unfold zq324
 rw [← e] at h1
 exact h1
theorem zq316 (l : List En) (k : Nat) : zq312 (l.take k) l = true := by
 by_cases hk : k ≤ l.length
 ·have := zq315 (l := l) hk (zc47 _)
  rwa [List.take_length] at this
 ·rw [List.take_of_length_le (by omega)]
  have := zq313 l []
  rwa [List.append_nil] at this
theorem put_ok {ep h u : Int} {l : List En} {e : Int} {o : Oq} (h0 : (putOf ep h u l e o).2.1 = 0) : e ≠ 0 ∧ e = ep ∧ (zq1124 l e o).2.1 = 0 ∧ (putOf ep h u l e o).1 = (ep,h,u,l ++ [⟨lenL l + 1,e,o⟩],()) := by
 unfold putOf at h0 ⊢
 split at h0
 ·cases h0
 rename_i h2
 split at h0
 ·rename_i h3; exact absurd h0 h3
 rename_i h3
 have h3' := zc49.1 h3
 refine ⟨by omega,by omega,h3',?_⟩
 rw [if_neg h2,if_neg h3,(zq1125 h3').2.2.2.2]
theorem zq221 {ep h u : Int} {l : List En} {who now : Int} (h0 : (acqOf ep h u l who now).2.1 = 0) : (overL h u now = true ∨ h = who) ∧ (overL h u now = true → ep ≠ 999) ∧ (acqOf ep h u l who now).1 = (if overL h u now = true then ep + 1 else ep,who,now + 10,l,()) := by
 unfold acqOf at h0 ⊢
 split at h0
 ·cases h0
 rename_i h1
 split at h0
 ·cases h0
 rename_i h2
 refine ⟨?_,fun ho he => h2 ⟨ho,he⟩,by rw [if_neg h1,if_neg h2]⟩
 cases hov : overL h u now
 ·right
  by_cases hw : h = who
  ·exact hw
  ·exact absurd ⟨hov,hw⟩ h1
 ·exact .inl rfl
structure Step (s s' : CS) (e : Ev) : Prop where
 ok : COkS s'
 time : s.1 ≤ s'.1
 epoch : s.2.1.1 ≤ s'.2.1.1
 log : zq312 s.2.1.2.2.2.1 s'.2.1.2.2.2.1 = true
 same : e.kind ≠ 3 → s'.2.1.2.2.2.1 = s.2.1.2.2.2.1
theorem zq314 (l : List En) : zq312 l l = true := by
 have := zq313 l []
 rwa [List.append_nil] at this
theorem zq1747 {s : CS} (hs : COkS s) {e : Ev} (he : e.In) (hf : formE s.1 e = 0) : Step s (evS s e).1 e := by
 obtain ⟨now,⟨ep,h,u,l,_⟩,a,b,x,y⟩ := s
 obtain ⟨ok,hl⟩ := hs
 simp only at ok hl hf
 obtain ⟨d1,d2,d3,d4,d5,d6⟩ := zq385 ok.disk
 obtain ⟨a0,a1,x1,x2⟩ := zq1156 ok.n1
 obtain ⟨b0,b1,y1,y2⟩ := zq1156 ok.n2
 obtain ⟨f1,f2,f3,f4,_⟩ := zq691 hf
 obtain ⟨t1,t2⟩ := ok.time
 have o1 := ok.o1
 have o2 := ok.o2
 have one := ok.ne
 have self : Step (now,(ep,h,u,l,()),a,b,x,y) (now,(ep,h,u,l,()),a,b,x,y) e := ⟨⟨ok,hl⟩,Int.le_refl _,Int.le_refl _,zq314 l,fun _ => rfl⟩
 unfold evS
 by_cases k1 : e.kind = 1
 ·obtain ⟨_,n1,n2⟩ := f2 k1
  rw [if_pos k1]
  exact ⟨⟨⟨by simp only; omega,ok.disk,ok.n1,ok.n2,ok.ne,ok.o1,ok.o2⟩,hl⟩,by simp only; omega,Int.le_refl _,zq314 l,fun _ => rfl⟩
 rw [if_neg k1]
 have hw := f3 k1
 by_cases k2 : e.kind = 2
 ·rw [if_pos k2]
  by_cases h0 : (acqOf ep h u l e.who now).2.1 = 0
  rotate_left
  ·simp only [if_neg h0]; exact self
  simp only [if_pos h0]
  obtain ⟨g1,g2,g3⟩ := zq221 h0
  rw [g3]
  have hd := zq220 ok.disk (show 1 ≤ e.who ∧ e.who ≤ 2 by omega) ok.time g1 g2
  have hep : (overL h u now = true ∧ (if overL h u now = true then ep + 1 else ep) = ep + 1) ∨ (h = e.who ∧ (if overL h u now = true then ep + 1 else ep) = ep) := by
   cases hov : overL h u now
   ·right
    rw [hov] at g1
    exact ⟨g1.resolve_left (by simp),by simp⟩
   ·left; simp
  generalize hE : (if overL h u now = true then ep + 1 else ep) = E at hd hep
  have hle : ep ≤ E := by omega
  refine ⟨⟨?_,hl⟩,Int.le_refl _,hle,zq314 l,fun _ => rfl⟩
  simp only
  rcases hw with hw | hw
  ·rw [if_pos hw,if_pos hw]
   exact ⟨ok.time,hd,zq1155 (by omega) (Int.le_refl _) x1 x2,zq1155 b0 (by omega) y1 y2,by omega,by omega,by omega⟩
  ·have hw1 : ¬ e.who = 1 := by omega
   rw [if_neg hw1,if_neg hw1]
   exact ⟨ok.time,hd,zq1155 a0 (by omega) x1 x2,zq1155 (by omega) (Int.le_refl _) y1 y2,by omega,by omega,by omega⟩
 rw [if_neg k2]
 by_cases k3 : e.kind = 3
 ·rw [if_pos k3]
  by_cases h0 : (putOf ep h u l (if e.who = 1 then a else b) e.op).2.1 = 0
  rotate_left
  ·simp only [if_neg h0]; exact self
  simp only [if_pos h0]
  obtain ⟨g1,g2,g3,g4⟩ := put_ok h0
  rw [g4]
  have hm : (zq1124 l ep e.op).2.1 = 0 := by rw [← g2]; exact g3
  rw [g2]
  refine ⟨⟨⟨ok.time,zq1826 ok.disk hm,zq1155 a0 a1 x1 (zq322 x2),zq1155 b0 b1 y1 (zq322 y2),ok.ne,ok.o1,ok.o2⟩,?_⟩,Int.le_refl _,Int.le_refl _,zq313 _ _,fun hh => absurd k3 hh⟩
  exact zq299 hl (by have := zq390 d5; unfold lenL; constructor <;> omega) (by constructor <;> omega) he.2.2.2
 rw [if_neg k3]
 by_cases k4 : e.kind = 4
 ·obtain ⟨n1,n2⟩ := f4 k4
  rw [if_pos k4]
  refine ⟨⟨?_,hl⟩,Int.le_refl _,Int.le_refl _,zq314 l,fun _ => rfl⟩
  simp only
  rcases hw with hw | hw
  ·rw [if_pos hw,if_pos hw,zq1570 x2 n1]
   exact ⟨ok.time,ok.disk,zq1155 a0 a1 (zq392 d5 _) (zq316 l _),ok.n2,ok.ne,ok.o1,ok.o2⟩
  ·have hw1 : ¬ e.who = 1 := by omega
   rw [if_neg hw1,if_neg hw1,zq1570 y2 n1]
   exact ⟨ok.time,ok.disk,ok.n1,zq1155 b0 b1 (zq392 d5 _) (zq316 l _),ok.ne,ok.o1,ok.o2⟩
 rw [if_neg k4]
 have hnil : zq398 ep l 0 [] = 0 := zq1155 (Int.le_refl _) d1.1 rfl (zq323 l)
 refine ⟨⟨?_,hl⟩,Int.le_refl _,Int.le_refl _,zq314 l,fun _ => rfl⟩
 simp only
 rcases hw with hw | hw
 ·simp only [if_pos hw]
  exact ⟨ok.time,ok.disk,hnil,ok.n2,by omega,by omega,ok.o2⟩
 ·have hw1 : ¬ e.who = 1 := by omega
  simp only [if_neg hw1]
  exact ⟨ok.time,ok.disk,ok.n1,hnil,by omega,ok.o1,by omega⟩
end Go.Ma
namespace Go.Ma
open Go
end Go.Ma
namespace Go.Ma
open Go
theorem beqI (a : Int) : (!decide (a = a)) = false := by rw [decide_eq_true rfl]; rfl
theorem zq1520 {now ep h u : Int} {l : List En} {a b : Int} {x y : List En} (hl : l.length < 9223372036854775808) (hx : x.length < 9223372036854775808) (hy : y.length < 9223372036854775808) : zq132 now ep h u l ([a,b],[x,y]) now ep h u l ([a,b],[x,y]) = some (true,()) := by
 obtain ⟨N,hN⟩ := fuel3
 unfold zq132
 rw [zq136 ep h u ep h u l hl,beqI,zq356,zq332,decide_eq_true rfl,zc10,zq332,zq356,beqI,zq332,zq356,hN,zq1083]
 have ex : zq147 x x = some (true,()) := by rw [zq145 hx,decide_eq_true rfl]
 have ey : zq147 y y = some (true,()) := by rw [zq145 hy,decide_eq_true rfl]
 simp only [zq125,dL0,zq358,iL0,zq1466,g20,zq332,gx0,ex,e01,ok1,beqI,zq356,zc10]
 rw [zq1083]
 simp only [zq125,dL1,zq358,iL1,zq1466,g21,zq332,gx1,ey,e11,ok2,beqI,zq356,zc10]
 rw [zq1083]
 simp only [zq125,dL2,zq356]
 rfl
theorem zq1519 : zq132 0 0 0 0 [] ([],[]) 0 0 0 0 [] ([],[]) = some (true,()) := by
 obtain ⟨N,hN⟩ := fuel3
 unfold zq132
 rw [zq136 0 0 0 0 0 0 [] (by decide),beqI,zq356,zq332,decide_eq_true rfl,zc10,zq332,zq356,beqI,zq332,zq356,hN,zq1083]
 rfl
theorem COkS.len {s : CS} (hs : COkS s) : s.2.1.2.2.2.1.length ≤ 30 ∧ s.2.2.2.2.1.length ≤ 30 ∧ s.2.2.2.2.2.length ≤ 30 := by
 obtain ⟨_,_,_,_,d5,_⟩ := zq385 hs.1.disk
 exact ⟨zq390 d5,zq390 (zq1156 hs.1.n1).2.2.1,zq390 (zq1156 hs.1.n2).2.2.1⟩
theorem COkS.logs {s : CS} (hs : COkS s) : logIn s.2.2.2.2.1 ∧ logIn s.2.2.2.2.2 := ⟨zq319 (zq1156 hs.1.n1).2.2.2 hs.2,zq319 (zq1156 hs.1.n2).2.2.2 hs.2⟩
theorem COkS.chk {s : CS} (hs : COkS s) : chkC s.1 s.2.1.1 s.2.1.2.1 s.2.1.2.2.1 s.2.1.2.2.2.1 [s.2.2.1,s.2.2.2.1] [s.2.2.2.2.1,s.2.2.2.2.2] = 0 := zq381.2 hs.1
theorem COkS.cs {s : CS} (hs : COkS s) : ∀ c ∈ [s.2.2.2.2.1,s.2.2.2.2.2],logIn c := fun c hc => by
 simp only [zc28,zc37,or_false] at hc
 rcases hc with rfl | rfl
 ·exact hs.logs.1
 ·exact hs.logs.2
theorem zq1517 {s : CS} (hs : COkS s) : zq132 s.1 s.2.1.1 s.2.1.2.1 s.2.1.2.2.1 s.2.1.2.2.2.1 ([s.2.2.1,s.2.2.2.1],[s.2.2.2.2.1,s.2.2.2.2.2]) s.1 s.2.1.1 s.2.1.2.1 s.2.1.2.2.1 s.2.1.2.2.2.1 ([s.2.2.1,s.2.2.2.1],[s.2.2.2.2.1,s.2.2.2.2.2]) = some (true,()) := by
 obtain ⟨h1,h2,h3⟩ := hs.len
 exact zq1520 (by omega) (by omega) (by omega)
theorem zq380 {s : CS} (hs : COkS s) : zq432 s.1 s.2.1.1 s.2.1.2.1 s.2.1.2.2.1 s.2.1.2.2.2.1 ([s.2.2.1,s.2.2.2.1],[s.2.2.2.2.1,s.2.2.2.2.2]) = some (0,()) := by
 rw [zq430 _ _ _ _ hs.2 _ hs.cs,hs.chk]
theorem do_cl {s : CS} (hs : COkS s) {e : Ev} (he : e.In) : zq451 s.1 s.2.1.1 s.2.1.2.1 s.2.1.2.2.1 s.2.1.2.2.2.1 ([s.2.2.1,s.2.2.2.1],[s.2.2.2.2.1,s.2.2.2.2.2]) e = some (if formE s.1 e ≠ 0 then errC (formE s.1 e) else (clOf (evS s e).1,(evS s e).2,0,())) := by
 rw [zq449 _ _ _ _ hs.2 _ hs.cs rfl he]
 unfold doC
 rw [if_neg (fun hh => hh hs.chk)]
 simp only [zq585]
theorem ev_cl {s : CS} (hs : COkS s) {e : Ev} (he : e.In) (hf : formE s.1 e = 0) : zq109 s.1 s.2.1.1 s.2.1.2.1 s.2.1.2.2.1 s.2.1.2.2.2.1 ([s.2.2.1,s.2.2.2.1],[s.2.2.2.2.1,s.2.2.2.2.2]) e = some (clOf (evS s e).1,(evS s e).2,()) := by
 rw [zq107 hs.1 he hf]
 simp only [zq585]
def seenC (now ep h u : Int) (l : List En) (es : List Int) (cs : List (List En)) (who : Int) : StV × Int × Unit :=
 if chkC now ep h u l es cs ≠ 0 then (noSt,chkC now ep h u l es cs,()) else if betw who 1 2 = false then (noSt,3,()) else (zq1458 noSt (getL cs (who - 1)),0,())
theorem zq469 (now ep h u : Int) {l : List En} (hl : logIn l) (es : List Int) {cs : List (List En)} (hc : ∀ c ∈ cs,logIn c) (hlen : cs.length = es.length) (who : Int) : zq471 now ep h u l (es,cs) who = some (seenC now ep h u l es cs who) := by
 unfold zq471 seenC
 rw [zq430 now ep h u hl es hc,zq332]
 by_cases h0 : chkC now ep h u l es cs = 0
 rotate_left
 ·rw [decide_eq_false h0,zq356,zq332,zq356,zc19,zq358,if_pos h0]; rfl
 obtain ⟨a,b,x,y,rfl,rfl,ok⟩ := zq383 hlen h0
 rw [decide_eq_true h0,zq358,zq487,zq332,zq332,zc10,if_neg (fun hh => hh h0)]
 cases hb : betw who 1 2
 ·rfl
 obtain ⟨w1,w2⟩ := zq329.1 hb
 have hw : who = 1 ∨ who = 2 := by omega
 have hx := zq390 (zq1156 ok.n1).2.2.1
 have hy := zq390 (zq1156 ok.n2).2.2.1
 have ix : logIn x := hc x (by simp)
 have iy : logIn y := hc y (by simp)
 simp only [zc10,zq356]
 rw [if_neg (by simp),zq1463 (zq747 (by omega) (by omega))]
 rcases hw with rfl | rfl
 ·rw [show (1 : Int) - 1 = 0 from rfl]
  simp only [iL0,zq1466,g20,zq332,gx0,zq1025 ix hx]
 ·rw [show (2 : Int) - 1 = 1 from rfl]
  simp only [iL1,zq1466,g21,zq332,gx1,zq1025 iy hy]
def runC : CS → List Bool → List Ev → Int × CS × List Bool
 | s,out,[] => (0,s,out)
 | s,out,e :: r => if formE s.1 e ≠ 0 then (formE s.1 e,s,out) else runC (evS s e).1 (out ++ [(evS s e).2]) r
def cs0 : CS := (0,(0,0,0,[],()),0,0,[],[])
theorem zq497 : COkS cs0 := ⟨zq381.1 (by decide +kernel),fun e he => by cases he⟩
theorem zq1499 : ∀ (r : List Ev) (s : CS) (out : List Bool),COkS s → (∀ e ∈ r,e.In) → COkS (runC s out r).2.1 ∧ ((runC s out r).1 = 0 → (runC s out r).2.2.length = out.length + r.length)
 | [],s,out,hs,_ => ⟨hs,fun _ => rfl⟩
 | e :: r,s,out,hs,hr => by
  unfold runC
  by_cases hf : formE s.1 e = 0
  ·rw [if_neg (fun hh => hh hf)]
   obtain ⟨h1,h2⟩ := zq1499 r (evS s e).1 (out ++ [(evS s e).2]) (zq1747 hs (hr e List.mem_cons_self) hf).ok fun x hx => hr x (List.mem_cons_of_mem _ hx)
   exact ⟨h1,fun h => by rw [h2 h]; simp; omega⟩
  ·rw [if_pos hf]
   exact ⟨hs,fun h => absurd h hf⟩
abbrev RunA := List Ev × (Int × Int × Int × Int × Unit) × (Int × Int × Int × Int × Unit) × List Bool × List En × List Int × List En × List Int × List (List En) × List (List En) × Unit
def zq1500 (l : List Ev) (z : Int × CS × List Bool) : (((Unit) × (Unit) × (Int × Unit) × Unit) × (List Ev × (Int × Int × Int × Int × Unit) × List Bool × List En × List Int × List (List En) × Unit)) ⊕ (((Unit) × (Unit) × (Unit) × Unit) × RunA) :=
 if z.1 ≠ 0 then Sum.inl (((),(),(z.1,()),()),(l,(0,0,0,0,()),[],[],[],[],()))
 else Sum.inr (((),(),(),()),(l,(0,0,0,0,()),(z.2.1.1,z.2.1.2.1.1,z.2.1.2.1.2.1,z.2.1.2.1.2.2.1,()),z.2.2,[],[],z.2.1.2.1.2.2.2.1,[z.2.1.2.2.1,z.2.1.2.2.2.1],[],[z.2.1.2.2.2.2.1,z.2.1.2.2.2.2.2],()))
theorem zq1509 {l : List Ev} (hl : l.length ≤ 40) (hin : ∀ e ∈ l,e.In) : ∀ (N i : Nat) (s : CS) (out : List Bool),COkS s → i ≤ l.length → l.length - i < N → out.length ≤ i →
  loopN zq457 N (((),(),(),(),(lenL l,()),((i : Int),()),()),((l,(0,0,0,0,()),(s.1,s.2.1.1,s.2.1.2.1,s.2.1.2.2.1,()),out,[],[],s.2.1.2.2.2.1,[s.2.2.1,s.2.2.2.1],[],[s.2.2.2.2.1,s.2.2.2.2.2],()) : RunA)) = some (zq1500 l (runC s out (l.drop i)))
 | 0,_,_,_,_,_,hN,_ => by omega
 | N + 1,i,s,out,hs,hi,hN,ho => by
  rw [zq1083]
  by_cases h : i < l.length
  rotate_left
  ·simp only [zq457]
   rw [decide_eq_false (show ¬ (i : Int) < lenL l by unfold lenL; omega),zq356,zc18 (by omega)]
   rfl
  obtain ⟨e,he⟩ : ∃ e,l[i]? = some e := ⟨_,zc0 h⟩
  have hei := hin e (zc5 he)
  rw [zq550 he]
  simp only [zq457]
  rw [decide_eq_true (show (i : Int) < lenL l by unfold lenL; omega),zq358,zq1463 (zq753 (by omega) (by unfold lenL; omega)),zq709 he,zq332,do_cl hs hei,zq332]
  unfold runC
  by_cases hf : formE s.1 e = 0
  rotate_left
  ·rw [if_pos hf,if_pos hf]
   have h1 : ¬ (errC (formE s.1 e)).2.2.1 = 0 := hf
   rw [decide_eq_false h1,zc19,zq358]
   unfold zq1500
   rw [if_pos hf]
   rfl
  rw [if_neg (fun hh => hh hf),if_neg (fun hh => hh hf)]
  simp only [decide_true,zc10,zq356]
  rw [zq1463 (zq1488 (zq989 _) (zq989 _) (by unfold lenL; simp; omega)),zq1463 (zq747 (by omega) (by omega)),show ((i : Int) + 1) = ((i + 1 : Nat) : Int) by omega]
  exact zq1509 hl hin N (i + 1) (evS s e).1 (out ++ [(evS s e).2]) (zq1747 hs hei hf).ok (by omega) (by omega) (by simp; omega)
def runT (l : List Ev) : CluV × List Bool × Int × Unit :=
 if l.length > 40 then (noCl,[],2,()) else if (runC cs0 [] l).1 ≠ 0 then (noCl,[],(runC cs0 [] l).1,()) else (clOf (runC cs0 [] l).2.1,(runC cs0 [] l).2.2,0,())
theorem zq463 {l : List Ev} (hin : ∀ e ∈ l,e.In) : zq465 l = some (runT l) := by
 unfold zq465 runT
 by_cases h : l.length > 40
 ·rw [decide_eq_true (show lenL l > 40 by unfold lenL; omega),zq358,if_pos h]; rfl
 rw [decide_eq_false (show ¬ lenL l > 40 by unfold lenL; omega),zq356,if_neg h]
 have := zq1509 (l := l) (by omega) hin FUEL 0 cs0 [] zq497 (Nat.zero_le _) (by unfold FUEL; omega) (zc47 _)
 rw [List.drop_zero] at this
 have this : loopN zq457 FUEL (((),(),(),(),(lenL l,()),(0,()),()),((l,(0,0,0,0,()),(0,0,0,0,()),[],[],[],[],[0,0],[],[[],[]],()) : RunA)) = _ := this
 unfold zq456
 rw [zq332,this,zq332]
 unfold zq1500
 by_cases h0 : (runC cs0 [] l).1 = 0
 ·rw [if_neg (fun hh => hh h0),if_neg (fun hh => hh h0)]; rfl
 ·rw [if_pos h0,if_pos h0]; rfl
theorem zq419 {s : CS} (hs : COkS s) : zq862 s.1 s.2.1.1 s.2.1.2.1 s.2.1.2.2.1 s.2.1.2.2.2.1 ([s.2.2.1,s.2.2.2.1],[s.2.2.2.2.1,s.2.2.2.2.2]) 0 0 s.1 s.2.1.1 s.2.1.2.1 s.2.1.2.2.1 s.2.1.2.2.2.1 ([s.2.2.1,s.2.2.2.1],[s.2.2.2.2.1,s.2.2.2.2.2]) = some (true,()) := by
 unfold zq862
 rw [decide_eq_true rfl,zc10,zq356,zq358,zq1517 hs]
 rfl
theorem zq420 {e : Int} (he : e ≠ 0) (now ep h u : Int) (l : List En) (ns : List Int × List (List En)) : zq862 0 0 0 0 [] ([],[]) e e now ep h u l ns = some (true,()) := by
 unfold zq862
 rw [decide_eq_false he,zc19,zq358,decide_eq_true rfl,zq358,zq1519]
 rfl
def evs : List Ev := [⟨2,1,0,noOq⟩,⟨3,1,0,op1⟩,⟨1,0,11,noOq⟩,⟨2,2,0,noOq⟩,⟨3,1,0,op2⟩,⟨4,2,5,noOq⟩,⟨3,2,0,op3⟩]
theorem zq586 : zq872 = some (evs,()) := rfl
theorem zq1152 : noOq.In := ⟨⟨by decide,by decide⟩,zq1153,zq1151,zq1756,⟨by decide,by decide⟩,⟨by decide,by decide⟩⟩
theorem zq587 : ∀ e ∈ evs,e.In := fun e he => by
 simp only [evs,zc28,zc37,or_false] at he
 rcases he with rfl | rfl | rfl | rfl | rfl | rfl | rfl
 all_goals refine ⟨⟨by decide,by decide⟩,⟨by decide,by decide⟩,⟨by decide,by decide⟩,?_⟩
 ·exact zq1152
 ·exact op_in.1
 ·exact zq1152
 ·exact zq1152
 ·exact op_in.2.1
 ·exact zq1152
 ·exact op_in.2.2
def csE : CS := (runC cs0 [] evs).2.1
theorem zq1507 : (runC cs0 [] evs).1 = 0 := by decide +kernel
theorem zq1504 : (runC cs0 [] evs).2.2 = [true,true,true,true,false,true,true] := by decide +kernel
theorem zq499 : COkS csE := (zq1499 evs cs0 [] zq497 zq587).1
theorem zq498 : lenL csE.2.1.2.2.2.1 = 2 := by decide +kernel
theorem csE_ep : csE.2.1.1 = 2 := by decide +kernel
theorem zq500 : lenL (zq1458 noSt csE.2.2.2.2.2).1.1 = 1 := by decide +kernel
theorem zq1146 : zq432 0 0 0 0 [] ([0,0],[[],[]]) = some (0,()) := zq380 zq497
theorem zq418 : zq857 = some (true,()) := by
 have e1 : zq465 evs = some (clOf csE,[true,true,true,true,false,true,true],0,()) := by
  rw [zq463 zq587]
  unfold runT
  rw [if_neg (by decide),if_neg (fun hh => hh zq1507),zq1504]
  rfl
 have e2 : zq471 csE.1 csE.2.1.1 csE.2.1.2.1 csE.2.1.2.2.1 csE.2.1.2.2.2.1 ([csE.2.2.1,csE.2.2.2.1],[csE.2.2.2.2.1,csE.2.2.2.2.2]) 2 = some (zq1458 noSt csE.2.2.2.2.2,0,()) := by
  rw [zq469 _ _ _ _ zq499.2 _ zq499.cs rfl]
  unfold seenC
  rw [if_neg (fun hh => hh zq499.chk),if_neg (by decide)]
  rfl
 have e3 := zq380 zq499
 unfold zq857
 rw [zq586,zq332,e1,zq332]
 show (zq471 csE.1 csE.2.1.1 csE.2.1.2.1 csE.2.1.2.2.1 csE.2.1.2.2.2.1 ([csE.2.2.1,csE.2.2.2.1],[csE.2.2.2.2.1,csE.2.2.2.2.2]) 2).bind _ = _
 rw [e2,zq332]
 unfold zq456
 simp only [zq332,decide_true,zc10,zq356]
 rw [zq1146,zq332]
 simp only [decide_true,zc10,zq356]
 rw [show lenL [true,true,true,true,false,true,true] = 7 from rfl,decide_eq_true rfl,zc10,zq356]
 show (zq432 csE.1 csE.2.1.1 csE.2.1.2.1 csE.2.1.2.2.1 csE.2.1.2.2.2.1 ([csE.2.2.1,csE.2.2.2.1],[csE.2.2.2.2.1,csE.2.2.2.2.2])).bind _ = _
 rw [e3,zq332]
 simp only [decide_true,zc10,zq356]
 show (req true <| (some true).bind fun p9 => (br p9 (req true <| (some false).bind fun p10 => some (!p10)) (some false)).bind fun c10 => (br c10 (req true <| (some true).bind fun p11 => some p11) (some false)).bind fun c11 => (br c11 (some (decide (lenL csE.2.1.2.2.2.1 = 2))) (some false)).bind fun c12 => (br c12 (some (decide (csE.2.1.1 = 2))) (some false)).bind fun c13 => (br c13 (some (decide (lenL (zq1458 noSt csE.2.2.2.2.2).1.1 = 1))) (some false)).bind fun c14 => some (c14,())) = _
 rw [zq498,csE_ep,zq500]
 rfl
end Go.Ma
namespace Go.Ma
open Go
end Go.Ma
namespace Go.Ma
open Go
end Go.Ma
namespace Go.Ma
open Go
theorem zq1086 {α Y : Type} {step : (α → Option Y) → α → Option Y} (I : α → Prop) (μ : α → Nat) (Q : Y → Prop)
  (h : ∀ x,I x → (∃ y,(∀ rec,step rec x = some y) ∧ Q y) ∨ ∃ x',I x' ∧ μ x' < μ x ∧ ∀ rec,step rec x = rec x') : ∀ (N : Nat) (x : α),I x → μ x < N → ∃ y,loopN step N x = some y ∧ Q y := by
 intro N
 induction N with
 | zero => intro x _ hx; omega
 | succ N ih =>
  intro x hI hx
  rcases h x hI with ⟨y,hy,hq⟩ | ⟨x',hI',hm,hs⟩
  ·exact ⟨y,by rw [zq1083,hy],hq⟩
  ·obtain ⟨y,hy,hq⟩ := ih x' hI' (by omega)
   exact ⟨y,by rw [zq1083,hs,hy],hq⟩
theorem zq1534 {α : Type} (k : List (List α)) (i : Nat) (v : List α) (hv : v.length = (k.getD i []).length) (n : Nat) : ((k.set i v).getD n []).length = (k.getD n []).length := by
 rw [zc3,zc3,List.getElem?_set]
 split
 ·rename_i h
  subst h
  split
  ·rw [zc3] at hv
   exact hv
  ·rename_i h
   rw [zc22 (by omega)]
 ·rfl
abbrev TL := List En × List (List En) × List Int × (Int × Int × Int × Int × Unit) × (Ev × Unit) × (Int × Int × Int × Int × Unit) × (Int × Int × Int × Int × Unit) × (Int × Int × Int × Int × Unit) × (Int × Int × Int × Unit) × (Int × Int × Int × Unit) × List En × (Int × Unit) × List En × List En × (Int × Int × Int × Int × Unit) × List Bool × List En × List Int × List En × List Int × List En × List Int × List En × List En × List Pf × List Ls × List En × List Int × List (List En) × List (List En) × List (List En) × List (List Ad) × List (List En) × Unit
abbrev O32 := List En × List (List En) × List Int × (Int × Int × Int × Int × Unit) × (Ev × Unit) × (Int × Int × Int × Int × Unit) × (Int × Int × Int × Int × Unit) × (Int × Int × Int × Unit) × (Int × Int × Int × Unit) × List En × (Int × Unit) × List En × List En × (Int × Int × Int × Int × Unit) × List Bool × List En × List Int × List En × List Int × List En × List En × List Pf × List Ls × List En × List Int × List (List En) × List (List En) × List (List Ad) × List (List En) × Unit
abbrev T2 := List En × List (List En) × List Int × (Int × Int × Int × Int × Unit) × (Ev × Unit) × (Int × Int × Int × Int × Unit) × (Int × Int × Int × Int × Unit) × (Int × Int × Int × Unit) × (Int × Int × Int × Unit) × List En × (Int × Unit) × List En × List En × (Int × Int × Int × Int × Unit) × List Bool × List En × List Int × List En × List Int × List En × List En × List Pf × List Ls × List En × List Int × List (List En) × List (List En) × List (List Ad) × List (List En) × (Int × Unit) × Unit
abbrev O10 := List En × List (List En) × List Int × (Int × Int × Int × Int × Unit) × (Ev × Unit) × (Int × Int × Int × Int × Unit) × (Int × Int × Int × Int × Unit) × (Int × Int × Int × Unit) × (Int × Int × Int × Unit) × List En × (Int × Unit) × List En × List En × (Int × Int × Int × Int × Unit) × List Bool × List En × List Int × List En × List Int × List En × List En × List Pf × List Ls × List En × List Int × List (List En) × List (List En) × List (List Ad) × List (List En) × Unit
abbrev T43 := List En × List (List En) × List Int × (Int × Int × Int × Int × Unit) × (Ev × Unit) × (Int × Int × Int × Int × Unit) × (Int × Int × Int × Int × Unit) × List Bool × List En × List Int × List En × List Int × List (List En) × List (List En) × Unit
abbrev T16 := List En × List (List En) × List Int × (Int × Int × Int × Int × Unit) × (Ev × Unit) × (Int × Int × Int × Int × Unit) × (Int × Int × Int × Int × Unit) × List En × List Int × List En × List Int × List (List En) × List (List En) × Unit
def slT (w : TL) (z : List (List En)) : TL := (w.1,w.2.1,w.2.2.1,w.2.2.2.1,w.2.2.2.2.1,w.2.2.2.2.2.1,w.2.2.2.2.2.2.1,w.2.2.2.2.2.2.2.1,w.2.2.2.2.2.2.2.2.1,w.2.2.2.2.2.2.2.2.2.1,w.2.2.2.2.2.2.2.2.2.2.1,w.2.2.2.2.2.2.2.2.2.2.2.1,w.2.2.2.2.2.2.2.2.2.2.2.2.1,w.2.2.2.2.2.2.2.2.2.2.2.2.2.1,w.2.2.2.2.2.2.2.2.2.2.2.2.2.2.1,w.2.2.2.2.2.2.2.2.2.2.2.2.2.2.2.1,w.2.2.2.2.2.2.2.2.2.2.2.2.2.2.2.2.1,w.2.2.2.2.2.2.2.2.2.2.2.2.2.2.2.2.2.1,w.2.2.2.2.2.2.2.2.2.2.2.2.2.2.2.2.2.2.1,w.2.2.2.2.2.2.2.2.2.2.2.2.2.2.2.2.2.2.2.1,w.2.2.2.2.2.2.2.2.2.2.2.2.2.2.2.2.2.2.2.2.1,w.2.2.2.2.2.2.2.2.2.2.2.2.2.2.2.2.2.2.2.2.2.1,w.2.2.2.2.2.2.2.2.2.2.2.2.2.2.2.2.2.2.2.2.2.2.1,w.2.2.2.2.2.2.2.2.2.2.2.2.2.2.2.2.2.2.2.2.2.2.2.1,w.2.2.2.2.2.2.2.2.2.2.2.2.2.2.2.2.2.2.2.2.2.2.2.2.1,w.2.2.2.2.2.2.2.2.2.2.2.2.2.2.2.2.2.2.2.2.2.2.2.2.2.1,w.2.2.2.2.2.2.2.2.2.2.2.2.2.2.2.2.2.2.2.2.2.2.2.2.2.2.1,w.2.2.2.2.2.2.2.2.2.2.2.2.2.2.2.2.2.2.2.2.2.2.2.2.2.2.2.1,w.2.2.2.2.2.2.2.2.2.2.2.2.2.2.2.2.2.2.2.2.2.2.2.2.2.2.2.2.1,w.2.2.2.2.2.2.2.2.2.2.2.2.2.2.2.2.2.2.2.2.2.2.2.2.2.2.2.2.2.1,z,w.2.2.2.2.2.2.2.2.2.2.2.2.2.2.2.2.2.2.2.2.2.2.2.2.2.2.2.2.2.2.2.1,w.2.2.2.2.2.2.2.2.2.2.2.2.2.2.2.2.2.2.2.2.2.2.2.2.2.2.2.2.2.2.2.2.1,())
def so32 (w : TL) : O32 := (w.1,w.2.1,w.2.2.1,w.2.2.2.1,w.2.2.2.2.1,w.2.2.2.2.2.1,w.2.2.2.2.2.2.1,w.2.2.2.2.2.2.2.2.1,w.2.2.2.2.2.2.2.2.2.1,w.2.2.2.2.2.2.2.2.2.2.1,w.2.2.2.2.2.2.2.2.2.2.2.1,w.2.2.2.2.2.2.2.2.2.2.2.2.1,w.2.2.2.2.2.2.2.2.2.2.2.2.2.1,w.2.2.2.2.2.2.2.2.2.2.2.2.2.2.1,w.2.2.2.2.2.2.2.2.2.2.2.2.2.2.2.1,w.2.2.2.2.2.2.2.2.2.2.2.2.2.2.2.2.1,w.2.2.2.2.2.2.2.2.2.2.2.2.2.2.2.2.2.1,w.2.2.2.2.2.2.2.2.2.2.2.2.2.2.2.2.2.2.1,w.2.2.2.2.2.2.2.2.2.2.2.2.2.2.2.2.2.2.2.1,w.2.2.2.2.2.2.2.2.2.2.2.2.2.2.2.2.2.2.2.2.2.2.1,w.2.2.2.2.2.2.2.2.2.2.2.2.2.2.2.2.2.2.2.2.2.2.2.1,w.2.2.2.2.2.2.2.2.2.2.2.2.2.2.2.2.2.2.2.2.2.2.2.2.1,w.2.2.2.2.2.2.2.2.2.2.2.2.2.2.2.2.2.2.2.2.2.2.2.2.2.1,w.2.2.2.2.2.2.2.2.2.2.2.2.2.2.2.2.2.2.2.2.2.2.2.2.2.2.1,w.2.2.2.2.2.2.2.2.2.2.2.2.2.2.2.2.2.2.2.2.2.2.2.2.2.2.2.1,w.2.2.2.2.2.2.2.2.2.2.2.2.2.2.2.2.2.2.2.2.2.2.2.2.2.2.2.2.1,w.2.2.2.2.2.2.2.2.2.2.2.2.2.2.2.2.2.2.2.2.2.2.2.2.2.2.2.2.2.1,w.2.2.2.2.2.2.2.2.2.2.2.2.2.2.2.2.2.2.2.2.2.2.2.2.2.2.2.2.2.2.2.1,w.2.2.2.2.2.2.2.2.2.2.2.2.2.2.2.2.2.2.2.2.2.2.2.2.2.2.2.2.2.2.2.2.1,())
def s2T (w : T2) (k : List (List Ad)) (p : List Pf) (l : List Ls) : T2 := (w.1,w.2.1,w.2.2.1,w.2.2.2.1,w.2.2.2.2.1,w.2.2.2.2.2.1,w.2.2.2.2.2.2.1,w.2.2.2.2.2.2.2.1,w.2.2.2.2.2.2.2.2.1,w.2.2.2.2.2.2.2.2.2.1,w.2.2.2.2.2.2.2.2.2.2.1,w.2.2.2.2.2.2.2.2.2.2.2.1,w.2.2.2.2.2.2.2.2.2.2.2.2.1,w.2.2.2.2.2.2.2.2.2.2.2.2.2.1,w.2.2.2.2.2.2.2.2.2.2.2.2.2.2.1,w.2.2.2.2.2.2.2.2.2.2.2.2.2.2.2.1,w.2.2.2.2.2.2.2.2.2.2.2.2.2.2.2.2.1,w.2.2.2.2.2.2.2.2.2.2.2.2.2.2.2.2.2.1,w.2.2.2.2.2.2.2.2.2.2.2.2.2.2.2.2.2.2.1,w.2.2.2.2.2.2.2.2.2.2.2.2.2.2.2.2.2.2.2.1,w.2.2.2.2.2.2.2.2.2.2.2.2.2.2.2.2.2.2.2.2.1,p,l,w.2.2.2.2.2.2.2.2.2.2.2.2.2.2.2.2.2.2.2.2.2.2.2.1,w.2.2.2.2.2.2.2.2.2.2.2.2.2.2.2.2.2.2.2.2.2.2.2.2.1,w.2.2.2.2.2.2.2.2.2.2.2.2.2.2.2.2.2.2.2.2.2.2.2.2.2.1,w.2.2.2.2.2.2.2.2.2.2.2.2.2.2.2.2.2.2.2.2.2.2.2.2.2.2.1,k,w.2.2.2.2.2.2.2.2.2.2.2.2.2.2.2.2.2.2.2.2.2.2.2.2.2.2.2.2.1,w.2.2.2.2.2.2.2.2.2.2.2.2.2.2.2.2.2.2.2.2.2.2.2.2.2.2.2.2.2.1,())
def s10o (w : T2) (k : List (List Ad)) (p : List Pf) (l : List Ls) : O10 := (w.1,w.2.1,w.2.2.1,w.2.2.2.1,w.2.2.2.2.1,w.2.2.2.2.2.1,w.2.2.2.2.2.2.1,w.2.2.2.2.2.2.2.1,w.2.2.2.2.2.2.2.2.1,w.2.2.2.2.2.2.2.2.2.1,w.2.2.2.2.2.2.2.2.2.2.1,w.2.2.2.2.2.2.2.2.2.2.2.1,w.2.2.2.2.2.2.2.2.2.2.2.2.1,w.2.2.2.2.2.2.2.2.2.2.2.2.2.1,w.2.2.2.2.2.2.2.2.2.2.2.2.2.2.1,w.2.2.2.2.2.2.2.2.2.2.2.2.2.2.2.1,w.2.2.2.2.2.2.2.2.2.2.2.2.2.2.2.2.1,w.2.2.2.2.2.2.2.2.2.2.2.2.2.2.2.2.2.1,w.2.2.2.2.2.2.2.2.2.2.2.2.2.2.2.2.2.2.1,w.2.2.2.2.2.2.2.2.2.2.2.2.2.2.2.2.2.2.2.1,w.2.2.2.2.2.2.2.2.2.2.2.2.2.2.2.2.2.2.2.2.1,p,l,w.2.2.2.2.2.2.2.2.2.2.2.2.2.2.2.2.2.2.2.2.2.2.2.1,w.2.2.2.2.2.2.2.2.2.2.2.2.2.2.2.2.2.2.2.2.2.2.2.2.1,w.2.2.2.2.2.2.2.2.2.2.2.2.2.2.2.2.2.2.2.2.2.2.2.2.2.1,w.2.2.2.2.2.2.2.2.2.2.2.2.2.2.2.2.2.2.2.2.2.2.2.2.2.2.1,k,w.2.2.2.2.2.2.2.2.2.2.2.2.2.2.2.2.2.2.2.2.2.2.2.2.2.2.2.2.1,())
def t43 (h : T16) (b : List Bool) : T43 := (h.1,h.2.1,h.2.2.1,h.2.2.2.1,h.2.2.2.2.1,h.2.2.2.2.2.1,h.2.2.2.2.2.2.1,b,h.2.2.2.2.2.2.2.1,h.2.2.2.2.2.2.2.2.1,h.2.2.2.2.2.2.2.2.2.1,h.2.2.2.2.2.2.2.2.2.2.1,h.2.2.2.2.2.2.2.2.2.2.2.1,h.2.2.2.2.2.2.2.2.2.2.2.2.1,())
theorem zq1582 (rec) (i j : Int) (w : TL) (z : List (List En)) : zq832 rec (((i,()),(j,()),()),slT w z) =
  br (decide (j < lenL (getL z i))) (req (zq751 j (lenL (getL z i))) <| req (zq751 j (lenL (getL z i))) <| (geti (getL z i) j).bind fun a => req (i64ok (j + 1)) <| rec (((i,()),(j + 1,()),()),slT w (seti z i (seti (getL z i) j (⟨(-7),a.epoch,a.op⟩ : En))))) (some ((),slT w z)) := rfl
theorem zq1581 (w : TL) (i : Nat) (z0 : List (List En)) (hz : (z0.getD i []).length < 9223372036854775808) :
  ∃ z',loopN zq832 FUEL ((((i : Int),()),(0,()),()),slT w z0) = some ((),slT w z') ∧ ∀ n,(z'.getD n []).length = (z0.getD n []).length := by
 obtain ⟨y,hy,z',rfl,hz'⟩ := zq1086 (step := zq832)
  (fun x => ∃ (j : Nat) (z : List (List En)),x = ((((i : Int),()),((j : Int),()),()),slT w z) ∧ (∀ n,(z.getD n []).length = (z0.getD n []).length) ∧ j ≤ (z0.getD i []).length)
  (fun x => (z0.getD i []).length - x.1.2.1.1.toNat) (fun y => ∃ z',y = ((),slT w z') ∧ ∀ n,(z'.getD n []).length = (z0.getD n []).length)
  (fun x' hx' => by
   obtain ⟨j,z,rfl,hlen,hj⟩ := hx'
   have hli := hlen i
   by_cases hje : j = (z0.getD i []).length
   ·refine .inl ⟨_,fun rec => ?_,z,rfl,hlen⟩
    rw [zq1582,zq707,decide_eq_false (by unfold lenL; omega),zq356]
   ·obtain ⟨a,ha⟩ : ∃ e,(z.getD i [])[j]? = some e := ⟨_,zc0 (by omega)⟩
    have r2 : zq751 (j : Int) (lenL (z.getD i [])) = true := zq753 (by omega) (by unfold lenL; omega)
    refine .inr ⟨((((i : Int),()),(((j + 1 : Nat) : Int),()),()),slT w (z.set i ((z.getD i []).set j (⟨(-7),a.epoch,a.op⟩ : En)))),⟨j + 1,_,rfl,fun n => ?_,by omega⟩,?_,fun rec => ?_⟩
    ·rw [zq1534 _ _ _ (by rw [zc43]),hlen]
    ·show (z0.getD i []).length - ((j + 1 : Nat) : Int).toNat < (z0.getD i []).length - ((j : Nat) : Int).toNat
     omega
    ·rw [zq1582,zq707,decide_eq_true (by unfold lenL; omega),zq358,r2,zq1466,zq1466,zq709 ha,zq332,zq1463 (zq747 (by omega) (by omega))]
     rfl)
  FUEL ((((i : Int),()),(0,()),()),slT w z0) ⟨0,z0,rfl,fun _ => rfl,Nat.zero_le _⟩ (zq703 (by show (z0.getD i []).length - (0 : Int).toNat < _; omega))
 exact ⟨z',hy,hz'⟩
theorem zq1514 {v0 v1 i : Int} {w : TL} {z z' : List (List En)} (h1 : loopN zq832 FUEL (((i,()),(0,()),()),slT w z) = some ((),slT w z')) (rec) :
  zq820 rec (((),(),(),(v0,()),(),(v1,()),(),(),(),(),(),(),(),(),(),(i,()),()),slT w z) = br (decide (i < lenL w.2.2.2.2.2.2.2.2.2.2.2.2.2.2.2.2.2.2.2.2.2.1)) (req (zq751 i (lenL w.2.2.2.2.2.2.2.2.2.2.2.2.2.2.2.2.2.2.2.2.2.1)) <| req (zq751 i (lenL w.2.2.2.2.2.2.2.2.2.2.2.2.2.2.2.2.2.2.2.2.2.1)) <| (geti w.2.2.2.2.2.2.2.2.2.2.2.2.2.2.2.2.2.2.2.2.2.1 i).bind fun _ => req (i64ok (i + 1)) <| rec (((),(),(),(v0,()),(),(v1,()),(),(),(),(),(),(),(),(),(),(i + 1,()),()),slT w z')) (some (((),(),(),(v0,()),(),(v1,()),(),(),(),(),(),(),(),(),()),so32 w)) := by
 unfold zq820
 show br _ (req _ <| req _ <| (geti w.2.2.2.2.2.2.2.2.2.2.2.2.2.2.2.2.2.2.2.2.2.1 i).bind fun _ => Option.bind (loopN zq832 FUEL (((i,()),(0,()),()),slT w z)) _) _ = _
 rw [h1]
 rfl
theorem zq1513 (v0 v1 : Int) (w : TL) (he : w.2.2.2.2.2.2.2.2.2.2.2.2.2.2.2.2.2.2.2.2.2.1.length < 9223372036854775808) (z0 : List (List En)) (hz : ∀ n,(z0.getD n []).length < 9223372036854775808) :
  loopN zq820 FUEL (((),(),(),(v0,()),(),(v1,()),(),(),(),(),(),(),(),(),(),(0,()),()),slT w z0) = some (((),(),(),(v0,()),(),(v1,()),(),(),(),(),(),(),(),(),()),so32 w) := by
 obtain ⟨y,hy,rfl⟩ := zq1086 (step := zq820)
  (fun x => ∃ (i : Nat) (z : List (List En)),x = (((),(),(),(v0,()),(),(v1,()),(),(),(),(),(),(),(),(),(),((i : Int),()),()),slT w z) ∧ (∀ n,(z.getD n []).length = (z0.getD n []).length) ∧ i ≤ w.2.2.2.2.2.2.2.2.2.2.2.2.2.2.2.2.2.2.2.2.2.1.length)
  (fun x => w.2.2.2.2.2.2.2.2.2.2.2.2.2.2.2.2.2.2.2.2.2.1.length - x.1.2.2.2.2.2.2.2.2.2.2.2.2.2.2.2.1.1.toNat) (fun y => y = (((),(),(),(v0,()),(),(v1,()),(),(),(),(),(),(),(),(),()),so32 w))
  (fun x' hx' => by
   obtain ⟨i,z,rfl,hlen,hi⟩ := hx'
   obtain ⟨z',h1,hz'⟩ := zq1581 w i z (by rw [hlen]; exact hz i)
   by_cases hie : i = w.2.2.2.2.2.2.2.2.2.2.2.2.2.2.2.2.2.2.2.2.2.1.length
   ·refine .inl ⟨_,fun rec => ?_,rfl⟩
    rw [zq1514 h1,decide_eq_false (by unfold lenL; omega),zq356]
   ·obtain ⟨a,ha⟩ : ∃ e,w.2.2.2.2.2.2.2.2.2.2.2.2.2.2.2.2.2.2.2.2.2.1[i]? = some e := ⟨_,zc0 (by omega)⟩
    have r1 : zq751 (i : Int) (lenL w.2.2.2.2.2.2.2.2.2.2.2.2.2.2.2.2.2.2.2.2.2.1) = true := zq753 (by omega) (by unfold lenL; omega)
    refine .inr ⟨(((),(),(),(v0,()),(),(v1,()),(),(),(),(),(),(),(),(),(),(((i + 1 : Nat) : Int),()),()),slT w z'),⟨i + 1,_,rfl,fun n => by rw [hz',hlen],by omega⟩,?_,fun rec => ?_⟩
    ·show w.2.2.2.2.2.2.2.2.2.2.2.2.2.2.2.2.2.2.2.2.2.1.length - ((i + 1 : Nat) : Int).toNat < w.2.2.2.2.2.2.2.2.2.2.2.2.2.2.2.2.2.2.2.2.2.1.length - ((i : Nat) : Int).toNat
     omega
    ·rw [zq1514 h1,decide_eq_true (by unfold lenL; omega),zq358,r1,zq1466,zq1466,zq709 ha,zq332,zq1463 (zq747 (by omega) (by omega))]
     rfl)
  FUEL (((),(),(),(v0,()),(),(v1,()),(),(),(),(),(),(),(),(),(),(0,()),()),slT w z0) ⟨0,z0,rfl,fun _ => rfl,Nat.zero_le _⟩ (zq703 (by show w.2.2.2.2.2.2.2.2.2.2.2.2.2.2.2.2.2.2.2.2.2.1.length - (0 : Int).toNat < _; omega))
 exact hy
theorem zq1644 (rec) (i j : Int) (w : T2) (k : List (List Ad)) (p : List Pf) (l : List Ls) : zq844 rec (((),(i,()),(j,()),()),s2T w k p l) =
  (req (zq751 i (lenL p)) <| req (zq751 i (lenL p)) <| (geti p i).bind fun _ => br (decide (j < lenL (getL k i))) (req (zq751 i (lenL p)) <| req (zq751 i (lenL p)) <| (geti p i).bind fun _ => req (zq751 j (lenL (getL k i))) <| req (zq751 j (lenL (getL k i))) <| (geti (getL k i) j).bind fun a => req (i64ok (j + 1)) <| rec (((),(i,()),(j + 1,()),()),s2T w (seti k i (seti (getL k i) j (⟨a.v6,a.hi,7⟩ : Ad))) p l)) (some (((),(i,()),()),s2T w k p l))) := rfl
theorem zq1643 (w : T2) (l : List Ls) {p : List Pf} {i : Nat} (hi : i < p.length) (hp : p.length < 9223372036854775808) (k0 : List (List Ad)) (hk : (k0.getD i []).length < 9223372036854775808) :
  ∃ k',loopN zq844 FUEL (((),((i : Int),()),(0,()),()),s2T w k0 p l) = some (((),((i : Int),()),()),s2T w k' p l) ∧ ∀ n,(k'.getD n []).length = (k0.getD n []).length := by
 obtain ⟨x,hx⟩ : ∃ e,p[i]? = some e := ⟨_,zc0 hi⟩
 have r1 : zq751 (i : Int) (lenL p) = true := zq753 (by omega) (by unfold lenL; omega)
 obtain ⟨y,hy,k',rfl,hk'⟩ := zq1086 (step := zq844)
  (fun x => ∃ (j : Nat) (k : List (List Ad)),x = (((),((i : Int),()),((j : Int),()),()),s2T w k p l) ∧ (∀ n,(k.getD n []).length = (k0.getD n []).length) ∧ j ≤ (k0.getD i []).length)
  (fun x => (k0.getD i []).length - x.1.2.2.1.1.toNat) (fun y => ∃ k',y = (((),((i : Int),()),()),s2T w k' p l) ∧ ∀ n,(k'.getD n []).length = (k0.getD n []).length)
  (fun x' hx' => by
   obtain ⟨j,k,rfl,hlen,hj⟩ := hx'
   have hli := hlen i
   by_cases hje : j = (k0.getD i []).length
   ·refine .inl ⟨_,fun rec => ?_,k,rfl,hlen⟩
    rw [zq1644,r1,zq1466,zq1466,zq709 hx,zq332,zq707,decide_eq_false (by unfold lenL; omega),zq356]
   ·obtain ⟨a,ha⟩ : ∃ e,(k.getD i [])[j]? = some e := ⟨_,zc0 (by omega)⟩
    have r2 : zq751 (j : Int) (lenL (k.getD i [])) = true := zq753 (by omega) (by unfold lenL; omega)
    refine .inr ⟨(((),((i : Int),()),(((j + 1 : Nat) : Int),()),()),s2T w (k.set i ((k.getD i []).set j (⟨a.v6,a.hi,7⟩ : Ad))) p l),⟨j + 1,_,rfl,fun n => ?_,by omega⟩,?_,fun rec => ?_⟩
    ·rw [zq1534 _ _ _ (by rw [zc43]),hlen]
    ·show (k0.getD i []).length - ((j + 1 : Nat) : Int).toNat < (k0.getD i []).length - ((j : Nat) : Int).toNat
     omega
    ·rw [zq1644,r1,zq1466,zq1466,zq709 hx,zq332,zq707,decide_eq_true (by unfold lenL; omega),zq358,r2,zq1466,zq1466,zq1466,zq1466,zq332,zq709 ha,zq332,zq1463 (zq747 (by omega) (by omega))]
     rfl)
  FUEL (((),((i : Int),()),(0,()),()),s2T w k0 p l) ⟨0,k0,rfl,fun _ => rfl,Nat.zero_le _⟩ (zq703 (by show (k0.getD i []).length - (0 : Int).toNat < _; omega))
 exact ⟨k',hy,hk'⟩
theorem zq1642 {i : Int} {w : T2} {k k' : List (List Ad)} {p : List Pf} {l : List Ls} (h5 : loopN zq844 FUEL (((),(i,()),(0,()),()),s2T w k p l) = some (((),(i,()),()),s2T w k' p l)) (rec) :
  zq841 rec (((),(i,()),()),s2T w k p l) = br (decide (i < lenL p)) (req (zq751 i (lenL p)) <| req (zq751 i (lenL p)) <| req (zq751 i (lenL p)) <| (geti p i).bind fun a => req (i64ok (i + 1)) <| rec (((),(i + 1,()),()),s2T w k' (seti p i (⟨a.ad,(-7)⟩ : Pf)) l)) (some (((),()),s2T w k p l)) := by
 unfold zq841
 show br _ (Option.bind (loopN zq844 FUEL (((),(i,()),(0,()),()),s2T w k p l)) _) _ = _
 rw [h5]
 rfl
theorem zq1640 {w : T2} {k : List (List Ad)} {p : List Pf} {l : List Ls} (rec) :
  zq841 rec (((),(lenL p,()),()),s2T w k p l) = some (((),()),s2T w k p l) := by
 unfold zq841
 show br (decide (lenL p < lenL p)) _ _ = _
 rw [decide_eq_false (Int.lt_irrefl _),zq356]
theorem zq1641 (w : T2) (l : List Ls) (p0 : List Pf) (hp : p0.length < 9223372036854775808) (k0 : List (List Ad)) (hk : ∀ n,(k0.getD n []).length < 9223372036854775808) :
  ∃ k' p',loopN zq841 FUEL (((),(0,()),()),s2T w k0 p0 l) = some (((),()),s2T w k' p' l) := by
 obtain ⟨y,hy,k',p',rfl⟩ := zq1086 (step := zq841)
  (fun x => ∃ (i : Nat) (k : List (List Ad)) (p : List Pf),x = (((),((i : Int),()),()),s2T w k p l) ∧ (∀ n,(k.getD n []).length = (k0.getD n []).length) ∧ p.length = p0.length ∧ i ≤ p0.length)
  (fun x => p0.length - x.1.2.1.1.toNat) (fun y => ∃ k' p',y = (((),()),s2T w k' p' l))
  (fun x' hx' => by
   obtain ⟨i,k,p,rfl,hlen,hpl,hi⟩ := hx'
   by_cases hie : i = p0.length
   ·refine .inl ⟨_,fun rec => ?_,k,p,rfl⟩
    have := zq1640 (w := w) (k := k) (p := p) (l := l) rec
    rw [show ((i : Nat) : Int) = lenL p by unfold lenL; omega]
    exact this
   ·obtain ⟨k',h5,hk'⟩ := zq1643 w l (p := p) (i := i) (by omega) (by omega) k (by rw [hlen]; exact hk i)
    obtain ⟨a,ha⟩ : ∃ e,p[i]? = some e := ⟨_,zc0 (by omega)⟩
    have r1 : zq751 (i : Int) (lenL p) = true := zq753 (by omega) (by unfold lenL; omega)
    refine .inr ⟨(((),(((i + 1 : Nat) : Int),()),()),s2T w k' (p.set i (⟨a.ad,(-7)⟩ : Pf)) l),⟨i + 1,_,_,rfl,fun n => by rw [hk',hlen],by rw [zc43,hpl],by omega⟩,?_,fun rec => ?_⟩
    ·show p0.length - ((i + 1 : Nat) : Int).toNat < p0.length - ((i : Nat) : Int).toNat
     omega
    ·rw [zq1642 h5,decide_eq_true (by unfold lenL; omega),zq358,r1,zq1466,zq1466,zq1466,zq709 ha,zq332,zq1463 (zq747 (by omega) (by omega))]
     rfl)
  FUEL (((),(0,()),()),s2T w k0 p0 l) ⟨0,k0,p0,rfl,fun _ => rfl,rfl,Nat.zero_le _⟩ (zq703 (by show p0.length - (0 : Int).toNat < _; omega))
 exact ⟨k',p',hy⟩
theorem zq1639 (rec) (i : Int) (w : T2) (k : List (List Ad)) (p : List Pf) (l : List Ls) : zq838 rec (((),(i,()),()),s2T w k p l) =
  br (decide (i < lenL l)) (req (zq751 i (lenL l)) <| req (zq751 i (lenL l)) <| (geti l i).bind fun a => req (i64ok (i + 1)) <| rec (((),(i + 1,()),()),s2T w k p (seti l i (⟨a.ad,(⟨#[63]⟩ : ByteArray),a.upto⟩ : Ls)))) (some ((),s10o w k p l)) := rfl
theorem zq1638 (w : T2) (k : List (List Ad)) (p : List Pf) (l0 : List Ls) (hl : l0.length < 9223372036854775808) :
  ∃ l',loopN zq838 FUEL (((),(0,()),()),s2T w k p l0) = some ((),s10o w k p l') := by
 obtain ⟨y,hy,l',rfl⟩ := zq1086 (step := zq838)
  (fun x => ∃ (i : Nat) (l : List Ls),x = (((),((i : Int),()),()),s2T w k p l) ∧ l.length = l0.length ∧ i ≤ l0.length)
  (fun x => l0.length - x.1.2.1.1.toNat) (fun y => ∃ l',y = ((),s10o w k p l'))
  (fun x' hx' => by
   obtain ⟨i,l,rfl,hll,hi⟩ := hx'
   by_cases hie : i = l0.length
   ·refine .inl ⟨_,fun rec => ?_,l,rfl⟩
    rw [zq1639,decide_eq_false (by unfold lenL; omega),zq356]
   ·obtain ⟨a,ha⟩ : ∃ e,l[i]? = some e := ⟨_,zc0 (by omega)⟩
    have r1 : zq751 (i : Int) (lenL l) = true := zq753 (by omega) (by unfold lenL; omega)
    refine .inr ⟨(((),(((i + 1 : Nat) : Int),()),()),s2T w k p (l.set i (⟨a.ad,(⟨#[63]⟩ : ByteArray),a.upto⟩ : Ls))),⟨i + 1,_,rfl,by rw [zc43,hll],by omega⟩,?_,fun rec => ?_⟩
    ·show l0.length - ((i + 1 : Nat) : Int).toNat < l0.length - ((i : Nat) : Int).toNat
     omega
    ·rw [zq1639,decide_eq_true (by unfold lenL; omega),zq358,r1,zq1466,zq1466,zq709 ha,zq332,zq1463 (zq747 (by omega) (by omega))]
     rfl)
  FUEL (((),(0,()),()),s2T w k p l0) ⟨0,l0,rfl,rfl,Nat.zero_le _⟩ (zq703 (by show l0.length - (0 : Int).toNat < _; omega))
 exact ⟨l',hy⟩
theorem zq1516 (rec) (v0 v1 i : Int) (h : T16) (b : List Bool) : zq823 rec (((),(),(),(v0,()),(),(v1,()),(),(i,()),()),t43 h b) =
  br (decide (i < lenL b)) (req (zq751 i (lenL b)) <| (geti b i).bind fun a => req (zq751 i (lenL b)) <| (geti b i).bind fun _ => req (i64ok (i + 1)) <| rec (((),(),(),(v0,()),(),(v1,()),(),(i + 1,()),()),t43 h (seti b i (!a)))) (some (((),(),(),(v0,()),(),(v1,()),()),h)) := rfl
theorem zq1515 (v0 v1 : Int) (h : T16) (b0 : List Bool) (hb : b0.length < 9223372036854775808) :
  loopN zq823 FUEL (((),(),(),(v0,()),(),(v1,()),(),(0,()),()),t43 h b0) = some (((),(),(),(v0,()),(),(v1,()),()),h) := by
 obtain ⟨y,hy,rfl⟩ := zq1086 (step := zq823)
  (fun x => ∃ (i : Nat) (b : List Bool),x = (((),(),(),(v0,()),(),(v1,()),(),((i : Int),()),()),t43 h b) ∧ b.length = b0.length ∧ i ≤ b0.length)
  (fun x => b0.length - x.1.2.2.2.2.2.2.2.1.1.toNat) (fun y => y = (((),(),(),(v0,()),(),(v1,()),()),h))
  (fun x' hx' => by
   obtain ⟨i,b,rfl,hll,hi⟩ := hx'
   by_cases hie : i = b0.length
   ·refine .inl ⟨_,fun rec => ?_,rfl⟩
    rw [zq1516,decide_eq_false (by unfold lenL; omega),zq356]
   ·obtain ⟨a,ha⟩ : ∃ e,b[i]? = some e := ⟨_,zc0 (by omega)⟩
    have r1 : zq751 (i : Int) (lenL b) = true := zq753 (by omega) (by unfold lenL; omega)
    refine .inr ⟨(((),(),(),(v0,()),(),(v1,()),(),(((i + 1 : Nat) : Int),()),()),t43 h (b.set i (!a))),⟨i + 1,_,rfl,by rw [zc43,hll],by omega⟩,?_,fun rec => ?_⟩
    ·show b0.length - ((i + 1 : Nat) : Int).toNat < b0.length - ((i : Nat) : Int).toNat
     omega
    ·rw [zq1516,decide_eq_true (by unfold lenL; omega),zq358,r1,zq1466,zq709 ha,zq332,zq1466,zq332,zq1463 (zq747 (by omega) (by omega))]
     rfl)
  FUEL (((),(),(),(v0,()),(),(v1,()),(),(0,()),()),t43 h b0) ⟨0,b0,rfl,rfl,Nat.zero_le _⟩ (zq703 (by show b0.length - (0 : Int).toNat < _; omega))
 exact hy
def spW (h : T16) (y1 : (Int × Int × Int × Int × (List En) × (List Int × List (List En)) × Unit) × Bool × Int × Unit) (y3 : (Int × Int × Int × (List En) × Unit) × Int × Int × Unit) (y6 : (Int × Int × Int × (List En) × Unit) × Int × Unit) (y10 : (List En) × Int × Unit) (y12 : ((List Pf × List (List Ad)) × (List Ls) × Int × Unit) × (List Ad) × Int × Unit) (y13 : (List En) × Int × Unit) (y15 : (List En) × Int × Unit) (y16 : (Int × Int × Int × Int × (List En) × (List Int × List (List En)) × Unit) × (List Bool) × Int × Unit) : TL := (h.1,h.2.1,h.2.2.1,(h.2.2.2.1.1,h.2.2.2.1.2.1,h.2.2.2.1.2.2.1,h.2.2.2.1.2.2.2.1,()),(h.2.2.2.2.1.1,()),(h.2.2.2.2.2.1.1,h.2.2.2.2.2.1.2.1,h.2.2.2.2.2.1.2.2.1,h.2.2.2.2.2.1.2.2.2.1,()),(h.2.2.2.2.2.2.1.1,h.2.2.2.2.2.2.1.2.1,h.2.2.2.2.2.2.1.2.2.1,h.2.2.2.2.2.2.1.2.2.2.1,()),(y1.1.1,y1.1.2.1,y1.1.2.2.1,y1.1.2.2.2.1,()),(y3.1.1,y3.1.2.1,y3.1.2.2.1,()),(y6.1.1,y6.1.2.1,y6.1.2.2.1,()),y10.1,(y12.1.2.2.1,()),y13.1,y15.1,(y16.1.1,y16.1.2.1,y16.1.2.2.1,y16.1.2.2.2.1,()),y16.2.1,h.2.2.2.2.2.2.2.1,h.2.2.2.2.2.2.2.2.1,h.2.2.2.2.2.2.2.2.2.1,h.2.2.2.2.2.2.2.2.2.2.1,zq898 y1.1.2.2.2.2.1,y1.1.2.2.2.2.2.1.1,y3.1.2.2.2.1,y6.1.2.2.2.1,y12.1.1.1,y12.1.2.1,y16.1.2.2.2.2.1,y16.1.2.2.2.2.2.1.1,h.2.2.2.2.2.2.2.2.2.2.2.1,h.2.2.2.2.2.2.2.2.2.2.2.2.1,y1.1.2.2.2.2.2.1.2,y12.1.1.2,y16.1.2.2.2.2.2.1.2,())
def sp2W (h : T16) (y1 : (Int × Int × Int × Int × (List En) × (List Int × List (List En)) × Unit) × Bool × Int × Unit) (y3 : (Int × Int × Int × (List En) × Unit) × Int × Int × Unit) (y6 : (Int × Int × Int × (List En) × Unit) × Int × Unit) (y10 : (List En) × Int × Unit) (y12 : ((List Pf × List (List Ad)) × (List Ls) × Int × Unit) × (List Ad) × Int × Unit) (y13 : (List En) × Int × Unit) (y15 : (List En) × Int × Unit) (y16 : (Int × Int × Int × Int × (List En) × (List Int × List (List En)) × Unit) × (List Bool) × Int × Unit) : T2 := (h.1,h.2.1,h.2.2.1,(h.2.2.2.1.1,h.2.2.2.1.2.1,h.2.2.2.1.2.2.1,h.2.2.2.1.2.2.2.1,()),(h.2.2.2.2.1.1,()),(h.2.2.2.2.2.1.1,h.2.2.2.2.2.1.2.1,h.2.2.2.2.2.1.2.2.1,h.2.2.2.2.2.1.2.2.2.1,()),(h.2.2.2.2.2.2.1.1,h.2.2.2.2.2.2.1.2.1,h.2.2.2.2.2.2.1.2.2.1,h.2.2.2.2.2.2.1.2.2.2.1,()),(y3.1.1,y3.1.2.1,y3.1.2.2.1,()),(y6.1.1,y6.1.2.1,y6.1.2.2.1,()),zq898 y10.1,(y12.1.2.2.1,()),zq898 y13.1,zq898 y15.1,(y16.1.1,y16.1.2.1,y16.1.2.2.1,y16.1.2.2.2.1,()),y16.2.1,h.2.2.2.2.2.2.2.1,h.2.2.2.2.2.2.2.2.1,h.2.2.2.2.2.2.2.2.2.1,h.2.2.2.2.2.2.2.2.2.2.1,zq898 y3.1.2.2.2.1,zq898 y6.1.2.2.2.1,y12.1.1.1,y12.1.2.1,zq898 y16.1.2.2.2.2.1,y16.1.2.2.2.2.2.1.1,h.2.2.2.2.2.2.2.2.2.2.2.1,h.2.2.2.2.2.2.2.2.2.2.2.2.1,y12.1.1.2,y16.1.2.2.2.2.2.1.2,(y12.1.2.2.1,()),())
theorem zq1421 (rec) (v0 : Int) (h : T16) : zq817 rec (((),(),(),(v0,()),(),(2,()),()),h) = some (Sum.inr ((),(h.1,h.2.1,h.2.2.1,()))) := by
 unfold zq817
 show br (decide ((2 : Int) < 2)) _ _ = _
 rw [decide_eq_false (by omega),zq356]
theorem zq331 {α β : Type} {x : Option α} {a : α} {f : α → Option β} (h : x = some a) : x.bind f = f a := by rw [h]; rfl
theorem zq1465 {α : Type} {c : Bool} {x : Option α} (h : c = true) : req c x = x := by rw [h,zq1466]
theorem br_no {α : Type} {c : Bool} {a b : Option α} (h : c = false) : br c a b = b := by rw [h,zq356]
set_option maxHeartbeats 4000000 in
theorem zq1423 {v0 v1 : Int} {h : T16} (hv : v1 < 2) (hv0 : 0 ≤ v1) {y1 : (Int × Int × Int × Int × (List En) × (List Int × List (List En)) × Unit) × Bool × Int × Unit} {y3 : (Int × Int × Int × (List En) × Unit) × Int × Int × Unit} {y6 : (Int × Int × Int × (List En) × Unit) × Int × Unit} {y10 : (List En) × Int × Unit} {y12 : ((List Pf × List (List Ad)) × (List Ls) × Int × Unit) × (List Ad) × Int × Unit} {y13 : (List En) × Int × Unit} {y15 : (List En) × Int × Unit} {y16 : (Int × Int × Int × Int × (List En) × (List Int × List (List En)) × Unit) × (List Bool) × Int × Unit}
  (e1 : zq451 h.2.2.2.2.2.1.1 h.2.2.2.2.2.1.2.1 h.2.2.2.2.2.1.2.2.1 h.2.2.2.2.2.1.2.2.2.1 h.2.2.2.2.2.2.2.1 (h.2.2.2.2.2.2.2.2.1,h.2.2.2.2.2.2.2.2.2.2.2.1) h.2.2.2.2.1.1 = some y1)
  (e2 : zq862 y1.1.1 y1.1.2.1 y1.1.2.2.1 y1.1.2.2.2.1 y1.1.2.2.2.2.1 y1.1.2.2.2.2.2.1 y1.2.2.1 v0 h.2.2.2.2.2.2.1.1 h.2.2.2.2.2.2.1.2.1 h.2.2.2.2.2.2.1.2.2.1 h.2.2.2.2.2.2.1.2.2.2.1 h.2.2.2.2.2.2.2.2.2.1 (h.2.2.2.2.2.2.2.2.2.2.1,h.2.2.2.2.2.2.2.2.2.2.2.2.1) = some (true,()))
  (e3 : zq596 h.2.2.2.2.2.1.2.1 h.2.2.2.2.2.1.2.2.1 h.2.2.2.2.2.1.2.2.2.1 h.2.2.2.2.2.2.2.1 1 9 = some y3)
  (e6 : zq644 h.2.2.2.2.2.1.2.1 h.2.2.2.2.2.1.2.2.1 h.2.2.2.2.2.1.2.2.2.1 h.2.2.2.2.2.2.2.1 h.2.2.2.2.2.1.2.1 op3 = some y6)
  (e10 : zq1015 h.2.2.2.2.2.2.2.1 999 op3 = some y10)
  (e12 : zq1074 h.2.2.2.2.2.2.2.1 = some y12)
  (hq : (decide (0 ≤ aop .quo .i64 (lenL h.2.2.2.2.2.2.2.1) 2) && decide (aop .quo .i64 (lenL h.2.2.2.2.2.2.2.1) 2 ≤ lenL h.2.2.2.2.2.2.2.1)) = true)
  (e13 : zq1554 (subL h.2.2.2.2.2.2.2.1 0 (aop .quo .i64 (lenL h.2.2.2.2.2.2.2.1) 2)) h.2.2.2.2.2.2.2.1 3 = some y13)
  (e15 : zq1569 (subL h.2.2.2.2.2.2.2.1 0 (aop .quo .i64 (lenL h.2.2.2.2.2.2.2.1) 2)) y13.1 = some y15)
  (e16 : zq465 ([h.2.2.2.2.1.1] : List Ev) = some y16)
  (e17 : zq132 h.2.2.2.2.2.1.1 h.2.2.2.2.2.1.2.1 h.2.2.2.2.2.1.2.2.1 h.2.2.2.2.2.1.2.2.2.1 h.2.2.2.2.2.2.2.1 (h.2.2.2.2.2.2.2.2.1,h.2.2.2.2.2.2.2.2.2.2.2.1) h.2.2.2.1.1 h.2.2.2.1.2.1 h.2.2.2.1.2.2.1 h.2.2.2.1.2.2.2.1 h.1 (h.2.2.1,h.2.1) = some (true,()))
  (hz : ((spW h y1 y3 y6 y10 y12 y13 y15 y16).2.2.2.2.2.2.2.2.2.2.2.2.2.2.2.2.2.2.2.2.2.1).length < 9223372036854775808 ∧ ∀ n,((y1.1.2.2.2.2.2.1.2 : List (List En)).getD n []).length < 9223372036854775808)
  (hs : (y12.1.1.1 : List Pf).length < 9223372036854775808 ∧ (∀ n,((y12.1.1.2 : List (List Ad)).getD n []).length < 9223372036854775808) ∧ (y12.1.2.1 : List Ls).length < 9223372036854775808)
  (hb : (y16.2.1 : List Bool).length < 9223372036854775808) (rec) :
  zq817 rec (((),(),(),(v0,()),(),(v1,()),()),h) = rec (((),(),(),(v0,()),(),(v1 + 1,()),()),h) := by
 have s32 := zq1513 v0 v1 (spW h y1 y3 y6 y10 y12 y13 y15 y16) hz.1 y1.1.2.2.2.2.2.1.2 hz.2
 obtain ⟨k',p',s2⟩ := zq1641 (sp2W h y1 y3 y6 y10 y12 y13 y15 y16) y12.1.2.1 y12.1.1.1 hs.1 y12.1.1.2 hs.2.1
 obtain ⟨l',s10⟩ := zq1638 (sp2W h y1 y3 y6 y10 y12 y13 y15 y16) k' p' y12.1.2.1 hs.2.2
 have s43 := zq1515 v0 v1 h y16.2.1 hb
 unfold zq817
 show br (decide (v1 < 2)) ((zq451 h.2.2.2.2.2.1.1 h.2.2.2.2.2.1.2.1 h.2.2.2.2.2.1.2.2.1 h.2.2.2.2.2.1.2.2.2.1 h.2.2.2.2.2.2.2.1 (h.2.2.2.2.2.2.2.2.1,h.2.2.2.2.2.2.2.2.2.2.2.1) h.2.2.2.2.1.1).bind _) _ = _
 rw [decide_eq_true hv,zq358,e1,zq332]
 show (zq862 y1.1.1 y1.1.2.1 y1.1.2.2.1 y1.1.2.2.2.1 y1.1.2.2.2.2.1 y1.1.2.2.2.2.2.1 y1.2.2.1 v0 h.2.2.2.2.2.2.1.1 h.2.2.2.2.2.2.1.2.1 h.2.2.2.2.2.2.1.2.2.1 h.2.2.2.2.2.2.1.2.2.2.1 h.2.2.2.2.2.2.2.2.2.1 (h.2.2.2.2.2.2.2.2.2.2.1,h.2.2.2.2.2.2.2.2.2.2.2.2.1)).bind _ = _
 rw [e2,zq332]
 simp only [zc10,zq356]
 show (zq596 h.2.2.2.2.2.1.2.1 h.2.2.2.2.2.1.2.2.1 h.2.2.2.2.2.1.2.2.2.1 h.2.2.2.2.2.2.2.1 1 9).bind _ = _
 rw [e3,zq332]
 show (both (zq897.bind fun y4 => req (zq751 2 (lenL y4.1)) <| (geti y4.1 2).bind fun p5 => dup 1 <| (zq644 h.2.2.2.2.2.1.2.1 h.2.2.2.2.2.1.2.2.1 h.2.2.2.2.2.1.2.2.2.1 h.2.2.2.2.2.2.2.1 h.2.2.2.2.2.1.2.1 p5).bind _) (zq897.bind fun y4 => req (zq751 2 (lenL y4.1)) <| (geti y4.1 2).bind fun p5 => (zq644 h.2.2.2.2.2.1.2.1 h.2.2.2.2.2.1.2.2.1 h.2.2.2.2.2.1.2.2.2.1 h.2.2.2.2.2.2.2.1 h.2.2.2.2.2.1.2.1 p5).bind _)).bind _ = _
 rw [zq1628,zq332,zq332]
 show (both (req (zq751 2 (lenL [op1,op2,op3])) <| (geti [op1,op2,op3] 2).bind fun p5 => dup 1 <| (zq644 h.2.2.2.2.2.1.2.1 h.2.2.2.2.2.1.2.2.1 h.2.2.2.2.2.1.2.2.2.1 h.2.2.2.2.2.2.2.1 h.2.2.2.2.2.1.2.1 p5).bind _) (req (zq751 2 (lenL [op1,op2,op3])) <| (geti [op1,op2,op3] 2).bind fun p5 => (zq644 h.2.2.2.2.2.1.2.1 h.2.2.2.2.2.1.2.2.1 h.2.2.2.2.2.1.2.2.2.1 h.2.2.2.2.2.2.2.1 h.2.2.2.2.2.1.2.1 p5).bind _)).bind _ = _
 rw [in2,zq1466,zq1466,get2,zq332,zq332,zq553,e6,zq332,zq354,zq332,zq332]
 refine Eq.trans (zq331 (a := ?ya) ?ha) ?ga
 case ha =>
  refine (zq1465 in2).trans ?_
  refine (zq331 get2).trans ?_
  refine (zq331 e10).trans ?_
  exact rfl
 refine (zq331 e12).trans ?_
 refine Eq.trans (zq331 (a := ?yb) ?hb) ?gb
 case hb =>
  refine (zq1465 hq).trans ?_
  refine (zq331 e13).trans ?_
  exact rfl
 refine (zq1465 hq).trans ?_
 refine (zq331 e15).trans ?_
 refine (zq331 e16).trans ?_
 refine (zq331 e17).trans ?_
 refine (br_no (by rfl)).trans ?_
 refine (zq331 s32).trans ?_
 refine (zq331 s2).trans ?_
 refine (zq331 s10).trans ?_
 refine (zq331 s43).trans ?_
 have hi : i64ok (v1 + 1) = true := zq747 (by omega) (by omega)
 exact (zq1465 hi).trans rfl
theorem zq1422 {v0 : Int} {h : T16} (hs : ∀ v1 : Int,0 ≤ v1 → v1 < 2 → ∀ rec,zq817 rec (((),(),(),(v0,()),(),(v1,()),()),h) = rec (((),(),(),(v0,()),(),(v1 + 1,()),()),h)) :
  loopN zq817 FUEL (((),(),(),(v0,()),(),(0,()),()),h) = some (Sum.inr ((),(h.1,h.2.1,h.2.2.1,()))) := by
 obtain ⟨n,hn⟩ : ∃ n,FUEL = n + 1 + 1 + 1 := by
  have := zq703 (n := 100) (by omega)
  exact ⟨FUEL - 3,by omega⟩
 rw [hn,zq1083,hs 0 (by omega) (by omega),zq1083,hs (0 + 1) (by omega) (by omega),zq1083]
 exact zq1421 _ _ _
theorem zq1412 (n : Nat) (h : n < 9223372036854775808) : aop .quo .i64 (n : Int) 2 = ((n / 2 : Nat) : Int) := by
 have h1 := Nat.div_le_self n 2
 simp only [aop]
 rw [show ((n : Int).tdiv 2) = ((n / 2 : Nat) : Int) from (Int.ofNat_tdiv n 2).symm]
 generalize n / 2 = q at h1
 exact wrap_i64 (by omega) (by omega)
abbrev T6 := List En × List (List En) × List Int × (Int × Int × Int × Int × Unit) × (Ev × Unit) × (Int × Int × Int × Int × Unit) × List En × List Int × List (List En) × Unit
def c6 (now ep h u : Int) (l m : List En) (es : List Int) (cs : List (List En)) (e : Ev) (i : Nat) : T6 := (l,cs,es,(now,ep,h,u,()),(e,()),(now,ep,h,u,()),m,es.take i,cs.take i,())
theorem zq1424 (now ep h u : Int) (l m : List En) {es : List Int} {cs : List (List En)} (e : Ev) (hn : cs.length = es.length) (he : es.length ≤ 1048576) (hc : ∀ c ∈ cs,c.length ≤ 1048576) :
  loopN zq826 FUEL (((),(),(),(0,()),()),c6 now ep h u l m es cs e 0) = some (((),(),(),()),(l,cs,es,(now,ep,h,u,()),(e,()),(now,ep,h,u,()),m,es,cs,())) := by
 refine zq1087 (fun i => (((),(),(),((i : Int),()),()),c6 now ep h u l m es cs e i)) es.length (fun _ => some (((),(),(),()),(l,cs,es,(now,ep,h,u,()),(e,()),(now,ep,h,u,()),m,es,cs,()))) (fun rec i hi hr => ?_) (fun rec => ?_) FUEL 0 (Nat.zero_le _) (zq703 (by omega))
 ·obtain ⟨x,hx⟩ : ∃ e,es[i]? = some e := ⟨_,zc0 hi⟩
  obtain ⟨y,hy⟩ : ∃ e,cs[i]? = some e := ⟨_,zc0 (by omega)⟩
  have r1 : zq751 (i : Int) (lenL es) = true := zq753 (by omega) (by unfold lenL; omega)
  have hyl : y.length ≤ 1048576 := hc y (zc5 hy)
  have hg : cs.getD i [] = y := by rw [zc3,hy]; rfl
  have r2 : room (lenL ([] : List En)) (lenL y) = true := zq1488 (zq989 _) (zq989 _) (by unfold lenL; simp; omega)
  have r3 : room (lenL (es.take i)) (lenL [x]) = true := zq1488 (zq989 _) (zq989 _) (by unfold lenL; simp; omega)
  have e1 : es.take i ++ [x] = es.take (i + 1) := by rw [List.take_add_one,hx]; rfl
  have e2 : padL (es.take i).length (cs.take i) ++ [[] ++ y] = cs.take (i + 1) := by
   have : padL (es.take i).length (cs.take i) = cs.take i := by
    unfold padL
    rw [List.take_append_of_le_length (by simp; omega),List.take_of_length_le (by simp; omega)]
   rw [this,zc42,List.take_add_one,hy]
   rfl
  unfold c6
  simp only [zq826]
  simp only [r1,zq1466,zq709 hx,zq332,zq707,hg,r2,r3,zq553,zq354,e1,e2]
  rw [decide_eq_true (show (i : Int) < lenL es by unfold lenL; omega),zq358]
  rw [show ((i : Int) + 1) = ((i + 1 : Nat) : Int) by omega,zq1463 (zq747 (by omega) (by omega))]
  exact hr
 ·unfold c6
  simp only [zq826]
  rw [decide_eq_false (show ¬ (es.length : Int) < lenL es by unfold lenL; omega),zq356,List.take_length,show cs.take es.length = cs by rw [← hn,List.take_length]]
theorem zq1518 (now ep h u : Int) {l : List En} (hl : l.length < 9223372036854775808) {es : List Int} {cs : List (List En)} (hn : cs.length = es.length) (he : es.length ≤ 1048576) (hc : ∀ c ∈ cs,c.length < 9223372036854775808) :
  zq132 now ep h u l (es,cs) now ep h u l (es,cs) = some (true,()) := by
 have hL : loopN zq125 FUEL (((),(),(0,()),()),(l,cs,es,l,cs,es,(now,ep,h,u,()),(now,ep,h,u,()),())) = some (Sum.inr ((),(l,cs,es,l,cs,es,()))) := by
  refine zq1087 (step := zq125) (fun i => (((),(),((i : Int),()),()),(l,cs,es,l,cs,es,(now,ep,h,u,()),(now,ep,h,u,()),()))) es.length (fun _ => some (Sum.inr ((),(l,cs,es,l,cs,es,())))) (fun rec i hi hr => ?_) (fun rec => ?_) FUEL 0 (Nat.zero_le _) (zq703 (by omega))
  ·obtain ⟨x,hx⟩ : ∃ e,es[i]? = some e := ⟨_,zc0 hi⟩
   obtain ⟨y,hy⟩ : ∃ e,cs[i]? = some e := ⟨_,zc0 (by omega)⟩
   have r1 : zq751 (i : Int) (lenL es) = true := zq753 (by omega) (by unfold lenL; omega)
   have hg : cs.getD i [] = y := by rw [zc3,hy]; rfl
   have hs : zq147 y y = some (true,()) := by rw [zq145 (hc y (zc5 hy)),decide_eq_true rfl]
   simp only [zq125]
   simp only [r1,zq1466,zq709 hx,zq332,zq707,hg,hs,beqI,zq356,zc10]
   rw [decide_eq_true (show (i : Int) < lenL es by unfold lenL; omega),zq358]
   rw [show ((i : Int) + 1) = ((i + 1 : Nat) : Int) by omega,zq1463 (zq747 (by omega) (by omega))]
   exact hr
  ·simp only [zq125]
   rw [decide_eq_false (show ¬ (es.length : Int) < lenL es by unfold lenL; omega),zq356]
 unfold zq132
 rw [zq136 ep h u ep h u l hl,beqI,zq356,zq332,decide_eq_true rfl,zc10,zq332,zq356,beqI,zq332,zq356,hL,zq332]
 rfl
theorem zq1148 {a b : List En} (hb : logIn b) : logIn (nextT a b 3).1 ∧ (nextT a b 3).1.length ≤ 1048576 := by
 unfold nextT
 split
 ·exact ⟨fun e he => (by cases he),Nat.zero_le _⟩
 ·refine ⟨zq551 hb _ _,?_⟩
  simp only [zq324,zc20]
  have : (3 : Int).toNat = 3 := rfl
  omega
theorem zq1461 {l : List En} (hl : logIn l) : fitS (zq1460 l).1.1.1 (zq1460 l).1.1.2 (zq1460 l).1.2.1 := by
 unfold zq1460
 split
 ·exact fit_no
 ·exact (zq1462 zq1154 hl).fit
theorem zq1510 {x : Ev} (hx : x.In) : (runT [x]).2.1.length < 9223372036854775808 := by
 unfold runT
 split
 ·simp
 split
 ·simp
 ·rename_i h
  rw [(zq1499 [x] cs0 [] zq497 (fun e he => by simp only [zc38] at he; subst he; exact hx)).2 (zc49.1 h)]
  simp
def h16 (now ep h u : Int) (l : List En) (es : List Int) (cs : List (List En)) (e : Ev) (w : CluV) : T16 := (l,cs,es,(now,ep,h,u,()),(e,()),(now,ep,h,u,()),(w.1,w.2.1,w.2.2.1,w.2.2.2.1,()),l,es,w.2.2.2.2.1,w.2.2.2.2.2.1.1,cs,w.2.2.2.2.2.1.2,())
theorem zq1425 (now ep h u : Int) {l : List En} (hl : logIn l) (hlen : l.length ≤ 1048576) {es : List Int} {cs : List (List En)} (hc : ∀ c ∈ cs,logIn c) (hn : cs.length = es.length) (n1 : es.length ≤ 1048576) (n2 : ∀ c ∈ cs,c.length ≤ 1048576) {e : Ev} (he : e.In)
  (v0 : Int) (w : CluV) {y1 : DoC} (e1 : zq451 now ep h u l (es,cs) e = some y1)
  (e2 : zq862 y1.1.1 y1.1.2.1 y1.1.2.2.1 y1.1.2.2.2.1 y1.1.2.2.2.2.1 y1.1.2.2.2.2.2.1 y1.2.2.1 v0 w.1 w.2.1 w.2.2.1 w.2.2.2.1 w.2.2.2.2.1 (w.2.2.2.2.2.1.1,w.2.2.2.2.2.1.2) = some (true,()))
  (hz1 : y1.1.2.2.2.2.2.1.1.length < 9223372036854775808) (hz2 : ∀ n,(y1.1.2.2.2.2.2.1.2.getD n []).length < 9223372036854775808) :
  loopN zq817 FUEL (((),(),(),(v0,()),(),(0,()),()),h16 now ep h u l es cs e w) = some (Sum.inr ((),(l,cs,es,()))) := by
 have eq2 : aop .quo .i64 (lenL l) 2 = ((l.length / 2 : Nat) : Int) := zq1412 l.length (by omega)
 have hsub : subL l 0 (aop .quo .i64 (lenL l) 2) = l.take (l.length / 2) := by rw [eq2,zq1761]
 have hq : (decide (0 ≤ aop .quo .i64 (lenL l) 2) && decide (aop .quo .i64 (lenL l) 2 ≤ lenL l)) = true := by
  rw [eq2,decide_eq_true (by omega),decide_eq_true (by unfold lenL; omega)]; rfl
 have hnx := zq1148 (a := l.take (l.length / 2)) hl
 have hft := zq1461 hl
 have hsame := zq1518 now ep h u (l := l) (by omega) hn n1 (fun c hcc => by have := n2 c hcc; omega)
 refine zq1422 (v0 := v0) (h := h16 now ep h u l es cs e w) (fun v1 h0 h2 rec => zq1423 (h := h16 now ep h u l es cs e w) h2 h0 e1 e2 (zq594 ep h u hl 1 9) (zq642 ep h u hl ep op_in.2.2) (zq1013 hl 999 op_in.2.2) (zq1072 hl) hq
  (y13 := nextT (l.take (l.length / 2)) l 3) ?_ (y15 := takeT (l.take (l.length / 2)) (nextT (l.take (l.length / 2)) l 3).1) ?_ (zq463 (l := [e]) fun x hx => by simp only [zc38] at hx; subst hx; exact he) hsame ⟨hz1,hz2⟩ ⟨hft.1,hft.2.1,hft.2.2⟩ (zq1510 he) rec)
 ·show zq1554 (subL l 0 (aop .quo .i64 (lenL l) 2)) l 3 = _
  rw [hsub]
  exact zq1552 (zq1772 hl _) hl 3
 ·show zq1569 (subL l 0 (aop .quo .i64 (lenL l) 2)) _ = _
  rw [hsub]
  exact zq1558 (zq1772 hl _) hnx.1 hnx.2
set_option maxHeartbeats 1000000 in
/-- **RestClusters**. -/
theorem zq166 (now ep h u : Int) {l : List En} (hl : logIn l) (hlen : l.length ≤ 1048576) (es : List Int) {cs : List (List En)} (hc : ∀ c ∈ cs,logIn c) (hn : cs.length = es.length) (n1 : es.length ≤ 1048576) (n2 : ∀ c ∈ cs,c.length ≤ 1048576) {e : Ev} (he : e.In) :
  zq851 now ep h u l (es,cs) e = some (true,()) := by
 have r1 : room (lenL ([] : List En)) (lenL l) = true := zq1488 (zq989 _) (zq989 _) (by unfold lenL; simp; omega)
 have eDo := zq449 now ep h u hl es hc hn he
 have h6 := zq1424 now ep h u l ([] ++ l) e hn n1 n2
 unfold zq851
 rw [zq418]
 simp only [zq332,zc10,zq356]
 rw [zq590]
 simp only [zq332,zc10,zq356]
 rw [zq1542]
 simp only [zq332,zc10,zq356]
 rw [zq1007]
 simp only [zq332,zc10,zq356]
 rw [r1,zq1466]
 show (loopN zq826 FUEL (((),(),(),(0,()),()),c6 now ep h u l ([] ++ l) es cs e 0)).bind _ = _
 rw [h6,zq332]
 show (zq58 now ep h u l (es,cs)).bind _ = _
 rw [zq56 now ep h u hl (by omega) es hc,zq332]
 have no : ∀ {c : Int},c ≠ 0 → doC now ep h u l es cs e = errC c → loopN zq817 FUEL (((),(),(),(c,()),(),(0,()),()),h16 now ep h u l es cs e noCl) = some (Sum.inr ((),(l,cs,es,()))) := fun {c} h0 hd => by
  rw [hd] at eDo
  exact zq1425 now ep h u hl hlen hc hn n1 n2 he c noCl eDo (zq420 h0 0 0 0 0 [] ([],[])) (Nat.zero_lt_succ _) (fun n => by simp [errC,noCl])
 by_cases h0 : chkC now ep h u l es cs = 0
 rotate_left
 ·have hL := no h0 (by unfold doC; rw [if_pos h0])
  simp only [h0,decide_false,zq356]
  exact (congrArg (fun z => Option.bind z _) hL).trans rfl
 obtain ⟨a,b,x,y,rfl,rfl,ok⟩ := zq383 hn h0
 have hs : COkS (now,(ep,h,u,l,()),a,b,x,y) := ⟨ok,hl⟩
 simp only [h0,decide_true,zq358]
 show (zq73 now e).bind _ = _
 rw [zq71 ok.time.1 ok.time.2,zq332]
 have hd : doC now ep h u l [a,b] [x,y] e = (if formE now e ≠ 0 then errC (formE now e) else (clOf (evS (now,(ep,h,u,l,()),a,b,x,y) e).1,(evS (now,(ep,h,u,l,()),a,b,x,y) e).2,0,())) := by
  unfold doC
  rw [if_neg (fun hh => hh h0)]
  simp only [zq585]
 by_cases hf : formE now e = 0
 rotate_left
 ·have hL := no hf (by rw [hd,if_pos hf])
  simp only [hf,decide_false,zq356]
  exact (congrArg (fun z => Option.bind z _) hL).trans rfl
 rw [hd,if_neg (fun hh => hh hf)] at eDo
 simp only [hf,decide_true,zq358]
 show (zq109 now ep h u l ([a,b],[x,y]) e).bind _ = _
 rw [ev_cl hs he hf,zq332]
 have hs' := (zq1747 hs he hf).ok
 obtain ⟨z,hz⟩ : ∃ z,z = evS (now,(ep,h,u,l,()),a,b,x,y) e := ⟨_,rfl⟩
 rw [← hz] at eDo hs' ⊢
 obtain ⟨_,l1,l2⟩ := hs'.len
 have hL := zq1425 now ep h u hl hlen hc hn n1 n2 he 0 (clOf z.1) eDo (zq419 hs') (by show ([z.1.2.2.1,z.1.2.2.2.1] : List Int).length < _; simp) (fun n => by
  show (([z.1.2.2.2.2.1,z.1.2.2.2.2.2] : List (List En)).getD n []).length < _
  rcases n with _ | _ | n
  ·show z.1.2.2.2.2.1.length < _; omega
  ·show z.1.2.2.2.2.2.length < _; omega
  ·simp)
 exact (congrArg (fun z => Option.bind z _) hL).trans rfl
end Go.Ma
namespace Go.Proofs.YtjolfddpghkabaaGreat
open Go Go.Ma
def noTi : TI := { known := false,kind := .other,agg := false,size := 0,zero := [],fields := [],elem := 0 }
def ti_1 : TI := ⟨true,.other,false,1,[.nilFunc],[],0,8,false,none,none,[],none,none,false⟩
def ti_2 : TI := ⟨true,(.int .i64),false,1,[.int .i64 0],[],0,8,false,some .int,none,[],none,none,false⟩
def ti_3 : TI := ti_2
def ti_4 : TI := ⟨true,.bool,false,1,[.bool false],[],0,1,false,some .bool,none,[],none,none,false⟩
def ti_5 : TI := ⟨true,(.int .u8),false,1,[.int .u8 0],[],0,1,false,some .u8,none,[],none,none,false⟩
def ti_6 : TI := ti_5
def ti_7 : TI := ⟨true,.struct,true,4,[.int .i64 0,.int .i64 0,.bool false,.int .u8 0],[(0,2),(1,3),(2,4),(3,6)],0,24,false,none,none,[],none,none,false⟩
def ti_8 : TI := ti_7
def ti_9 : TI := ⟨true,.str,false,1,[.string .empty],[],0,16,false,some .str,none,[],none,none,false⟩
def ti_10 : TI := ti_9
def ti_11 : TI := ti_9
def ti_12 : TI := ⟨true,(.int .u64),false,1,[.int .u64 0],[],0,8,false,some .u64,none,[],none,none,false⟩
def ti_13 : TI := ⟨true,.struct,true,2,[.string .empty,.int .u64 0],[(0,9),(1,12)],0,24,false,none,none,[],none,none,false⟩
def ti_14 : TI := ti_13
def ti_15 : TI := ⟨true,.other,false,1,[.pointer none],[],0,8,false,none,none,[],none,none,false⟩
def ti_16 : TI := ti_15
def ti_17 : TI := ti_15
def ti_18 : TI := ⟨true,.struct,true,1,[.pointer none],[(0,17)],0,8,false,none,none,[],none,none,false⟩
def ti_19 : TI := ti_18
def ti_20 : TI := ⟨true,.other,false,1,[.nilIface],[],0,16,false,none,none,[],none,none,false⟩
def ti_21 : TI := ⟨true,(.int .i32),false,1,[.int .i32 0],[],0,4,false,none,none,[],none,none,false⟩
def ti_22 : TI := ⟨true,.struct,true,2,[.int .i64 0,.int .i64 0],[(0,3),(1,3)],0,16,false,none,none,[],none,none,false⟩
def ti_23 : TI := ⟨true,.struct,true,2,[.int .i64 0,.int .i64 0],[(0,3),(1,3)],0,16,true,none,none,[],none,none,false⟩
def ti_24 : TI := ⟨true,.slice,false,1,[.slice none 0 0],[],100,24,false,none,none,[(0,.inl .entry,100)],none,none,false⟩
def ti_25 : TI := ⟨true,.struct,true,4,[.int .i64 0,.int .i64 0,.int .i64 0,.slice none 0 0],[(0,3),(1,23),(3,24)],0,48,false,none,none,[(3,.inl .entry,100)],none,none,false⟩
def ti_26 : TI := ti_25
def ti_27 : TI := ⟨true,.slice,false,1,[.slice none 0 0],[],41,24,false,none,none,[(0,.inr (.int,.entry,100),41)],none,none,false⟩
def ti_28 : TI := ⟨true,.struct,true,6,[.int .i64 0,.int .i64 0,.int .i64 0,.int .i64 0,.slice none 0 0,.slice none 0 0],[(0,3),(1,26),(5,27)],0,80,false,none,none,[(4,.inl .entry,100),(5,.inr (.int,.entry,100),41)],none,none,false⟩
def ti_29 : TI := ti_28
def ti_30 : TI := ti_12
def ti_31 : TI := ⟨true,.struct,true,3,[.bool false,.int .u64 0,.int .u64 0],[(0,4),(1,30),(2,30)],0,24,false,none,none,[],none,none,false⟩
def ti_32 : TI := ⟨true,.struct,true,3,[.bool false,.int .u64 0,.int .u64 0],[(0,4),(1,30),(2,30)],0,24,true,some .addr,none,[],none,none,false⟩
def ti_33 : TI := ⟨true,.struct,true,4,[.bool false,.int .u64 0,.int .u64 0,.int .i64 0],[(0,32),(3,3)],0,32,false,none,none,[],none,none,false⟩
def ti_34 : TI := ⟨true,.struct,true,4,[.bool false,.int .u64 0,.int .u64 0,.int .i64 0],[(0,32),(3,3)],0,32,true,some .pfx,none,[],none,none,false⟩
def ti_35 : TI := ⟨true,.struct,true,11,[.int .i64 0,.bool false,.int .u64 0,.int .u64 0,.int .i64 0,.bool false,.int .u64 0,.int .u64 0,.string .empty,.int .i64 0,.int .i64 0],[(0,3),(1,34),(5,32),(8,9),(9,3),(10,3)],0,96,false,none,none,[],none,none,false⟩
def ti_36 : TI := ⟨true,.struct,true,11,[.int .i64 0,.bool false,.int .u64 0,.int .u64 0,.int .i64 0,.bool false,.int .u64 0,.int .u64 0,.string .empty,.int .i64 0,.int .i64 0],[(0,3),(1,34),(5,32),(8,9),(9,3),(10,3)],0,96,true,some .op,none,[],none,none,false⟩
def ti_37 : TI := ⟨true,.struct,true,14,[.int .i64 0,.int .i64 0,.int .i64 0,.int .i64 0,.bool false,.int .u64 0,.int .u64 0,.int .i64 0,.bool false,.int .u64 0,.int .u64 0,.string .empty,.int .i64 0,.int .i64 0],[(0,3),(1,3),(2,3),(3,36)],0,120,false,none,none,[],none,none,false⟩
def ti_38 : TI := ⟨true,.struct,true,14,[.int .i64 0,.int .i64 0,.int .i64 0,.int .i64 0,.bool false,.int .u64 0,.int .u64 0,.int .i64 0,.bool false,.int .u64 0,.int .u64 0,.string .empty,.int .i64 0,.int .i64 0],[(0,3),(1,3),(2,3),(3,36)],0,120,true,some .event,none,[],none,none,false⟩
def ti_39 : TI := ti_1
def ti_40 : TI := ⟨true,.struct,true,2,[.int .i64 0,.slice none 0 0],[(0,3),(1,24)],0,32,false,none,some (.int,.entry,100),[(1,.inl .entry,100)],none,none,false⟩
def ti_41 : TI := ti_40
def ti_42 : TI := ti_2
def ti_43 : TI := ti_1
def ti_44 : TI := ti_1
def ti_51 : TI := ti_1
def ti_54 : TI := ⟨true,.slice,false,1,[.slice none 0 0],[],36,24,false,none,none,[(0,.inl .op,36)],none,none,false⟩
def ti_57 : TI := ti_1
def ti_58 : TI := ⟨true,.slice,false,1,[.slice none 0 0],[],103,24,false,none,none,[(0,.inr (.pfx,.addr,32),103)],none,none,false⟩
def ti_59 : TI := ⟨true,.slice,false,1,[.slice none 0 0],[],105,24,false,none,none,[(0,.inl .lease,105)],none,none,false⟩
def ti_61 : TI := ⟨true,.struct,true,3,[.slice none 0 0,.slice none 0 0,.int .i64 0],[(0,58),(1,59),(2,3)],0,56,false,none,none,[(0,.inr (.pfx,.addr,32),103),(1,.inl .lease,105)],none,none,false⟩
def ti_62 : TI := ⟨true,.slice,false,1,[.slice none 0 0],[],32,24,false,none,none,[(0,.inl .addr,32)],none,none,false⟩
def ti_64 : TI := ti_1
def ti_67 : TI := ⟨true,.slice,false,1,[.slice none 0 0],[],4,24,false,none,none,[(0,.inl .bool,4)],none,none,false⟩
def ti_70 : TI := ⟨true,.slice,false,1,[.slice none 0 0],[],38,24,false,none,none,[(0,.inl .event,38)],none,none,false⟩
def ti_71 : TI := ti_1
def ti_90 : TI := ti_15
def ti_94 : TI := ⟨true,.struct,true,6,[.int .i64 0,.int .i64 0,.int .i64 0,.int .i64 0,.slice none 0 0,.slice none 0 0],[(0,29)],0,80,false,none,none,[(4,.inl .entry,100),(5,.inr (.int,.entry,100),41)],none,none,false⟩
def ti_99 : TI := ⟨true,.struct,true,13,[.int .i64 0,.int .i64 0,.int .i64 0,.bool false,.int .u64 0,.int .u64 0,.int .i64 0,.bool false,.int .u64 0,.int .u64 0,.string .empty,.int .i64 0,.int .i64 0],[(0,3),(1,3),(2,36)],0,112,false,none,none,[],none,none,false⟩
def ti_100 : TI := ⟨true,.struct,true,13,[.int .i64 0,.int .i64 0,.int .i64 0,.bool false,.int .u64 0,.int .u64 0,.int .i64 0,.bool false,.int .u64 0,.int .u64 0,.string .empty,.int .i64 0,.int .i64 0],[(0,3),(1,3),(2,36)],0,112,true,some .entry,none,[],none,none,false⟩
def ti_102 : TI := ⟨true,.struct,true,5,[.bool false,.int .u64 0,.int .u64 0,.int .i64 0,.slice none 0 0],[(0,34),(4,62)],0,56,false,none,some (.pfx,.addr,32),[(4,.inl .addr,32)],none,none,false⟩
def ti_103 : TI := ti_102
def ti_105 : TI := ⟨true,.struct,true,5,[.bool false,.int .u64 0,.int .u64 0,.string .empty,.int .i64 0],[(0,32),(3,9),(4,3)],0,48,true,some .lease,none,[],none,none,false⟩
def ti_108 : TI := ti_1
def ti_109 : TI := ⟨true,.slice,false,1,[.slice none 0 0],[],24,24,false,none,none,[],none,none,false⟩
def ti_116 : TI := ti_15
def ti_118 : TI := ⟨true,.struct,true,4,[.int .i64 0,.int .i64 0,.int .i64 0,.slice none 0 0],[(0,26)],0,48,false,none,none,[(3,.inl .entry,100)],none,none,false⟩
def ti_120 : TI := ti_15
def ti_121 : TI := ⟨true,.struct,true,4,[.slice none 0 0,.slice none 0 0,.int .i64 0,.slice none 0 0],[(0,61),(3,62)],0,80,false,none,none,[(0,.inr (.pfx,.addr,32),103),(1,.inl .lease,105),(3,.inl .addr,32)],none,none,false⟩
def ti_122 : TI := ti_121
def ti_126 : TI := ti_1
def ti_127 : TI := ti_1
def ti_130 : TI := ti_1
def ti_138 : TI := ti_15
def ti_141 : TI := ⟨true,.struct,true,3,[.slice none 0 0,.slice none 0 0,.int .i64 0],[(0,61)],0,56,false,none,none,[(0,.inr (.pfx,.addr,32),103),(1,.inl .lease,105)],none,none,false⟩
def ti_144 : TI := ⟨true,.slice,false,1,[.slice none 0 0],[],5,24,false,none,none,[(0,.inl .u8,5)],none,none,false⟩
def ti_152 : TI := ti_1
def ti_156 : TI := ti_1
def ti_157 : TI := ti_1
def ti_161 : TI := ti_1
def ti_168 : TI := ti_1
def ti_171 : TI := ti_1
def ti_173 : TI := ti_12
def ti_180 : TI := ti_15
def ti_182 : TI := ⟨true,.struct,true,6,[.bool false,.int .u64 0,.int .u64 0,.int .i64 0,.slice none 0 0,.slice none 0 0],[(0,103),(5,59)],0,80,false,none,none,[(4,.inl .addr,32),(5,.inl .lease,105)],none,none,false⟩
def ti_191 : TI := ti_1
def ti_195 : TI := ti_2
def ti_202 : TI := ⟨true,(.int .u32),false,1,[.int .u32 0],[],0,4,false,none,none,[],none,none,false⟩
def ti_210 : TI := ti_12
def ti_214 : TI := ti_15
def ti_218 : TI := ti_15
def ty (t : Nat) : TI := bif Nat.blt t 240 then (bif Nat.blt t 120 then (bif Nat.blt t 60 then (bif Nat.blt t 30 then (bif Nat.blt t 15 then (bif Nat.blt t 7 then (bif Nat.blt t 3 then (bif Nat.blt t 1 then noTi else (bif Nat.blt t 2 then ti_1 else ti_2)) else (bif Nat.blt t 5 then (bif Nat.blt t 4 then ti_3 else ti_4) else (bif Nat.blt t 6 then ti_5 else ti_6))) else (bif Nat.blt t 11 then (bif Nat.blt t 9 then (bif Nat.blt t 8 then ti_7 else ti_8) else (bif Nat.blt t 10 then ti_9 else ti_10)) else (bif Nat.blt t 13 then (bif Nat.blt t 12 then ti_11 else ti_12) else (bif Nat.blt t 14 then ti_13 else ti_14)))) else (bif Nat.blt t 22 then (bif Nat.blt t 18 then (bif Nat.blt t 16 then ti_15 else (bif Nat.blt t 17 then ti_16 else ti_17)) else (bif Nat.blt t 20 then (bif Nat.blt t 19 then ti_18 else ti_19) else (bif Nat.blt t 21 then ti_20 else ti_21))) else (bif Nat.blt t 26 then (bif Nat.blt t 24 then (bif Nat.blt t 23 then ti_22 else ti_23) else (bif Nat.blt t 25 then ti_24 else ti_25)) else (bif Nat.blt t 28 then (bif Nat.blt t 27 then ti_26 else ti_27) else (bif Nat.blt t 29 then ti_28 else ti_29))))) else (bif Nat.blt t 45 then (bif Nat.blt t 37 then (bif Nat.blt t 33 then (bif Nat.blt t 31 then ti_30 else (bif Nat.blt t 32 then ti_31 else ti_32)) else (bif Nat.blt t 35 then (bif Nat.blt t 34 then ti_33 else ti_34) else (bif Nat.blt t 36 then ti_35 else ti_36))) else (bif Nat.blt t 41 then (bif Nat.blt t 39 then (bif Nat.blt t 38 then ti_37 else ti_38) else (bif Nat.blt t 40 then ti_39 else ti_40)) else (bif Nat.blt t 43 then (bif Nat.blt t 42 then ti_41 else ti_42) else (bif Nat.blt t 44 then ti_43 else ti_44)))) else (bif Nat.blt t 52 then (bif Nat.blt t 48 then noTi else (bif Nat.blt t 50 then noTi else (bif Nat.blt t 51 then noTi else ti_51))) else (bif Nat.blt t 56 then (bif Nat.blt t 54 then noTi else (bif Nat.blt t 55 then ti_54 else noTi)) else (bif Nat.blt t 58 then (bif Nat.blt t 57 then noTi else ti_57) else (bif Nat.blt t 59 then ti_58 else ti_59)))))) else (bif Nat.blt t 90 then (bif Nat.blt t 75 then (bif Nat.blt t 67 then (bif Nat.blt t 63 then (bif Nat.blt t 61 then noTi else (bif Nat.blt t 62 then ti_61 else ti_62)) else (bif Nat.blt t 65 then (bif Nat.blt t 64 then noTi else ti_64) else noTi)) else (bif Nat.blt t 71 then (bif Nat.blt t 69 then (bif Nat.blt t 68 then ti_67 else noTi) else (bif Nat.blt t 70 then noTi else ti_70)) else (bif Nat.blt t 73 then (bif Nat.blt t 72 then ti_71 else noTi) else noTi))) else noTi) else (bif Nat.blt t 105 then (bif Nat.blt t 97 then (bif Nat.blt t 93 then (bif Nat.blt t 91 then ti_90 else noTi) else (bif Nat.blt t 95 then (bif Nat.blt t 94 then noTi else ti_94) else noTi)) else (bif Nat.blt t 101 then (bif Nat.blt t 99 then noTi else (bif Nat.blt t 100 then ti_99 else ti_100)) else (bif Nat.blt t 103 then (bif Nat.blt t 102 then noTi else ti_102) else (bif Nat.blt t 104 then ti_103 else noTi)))) else (bif Nat.blt t 112 then (bif Nat.blt t 108 then (bif Nat.blt t 106 then ti_105 else noTi) else (bif Nat.blt t 110 then (bif Nat.blt t 109 then ti_108 else ti_109) else noTi)) else (bif Nat.blt t 116 then noTi else (bif Nat.blt t 118 then (bif Nat.blt t 117 then ti_116 else noTi) else (bif Nat.blt t 119 then ti_118 else noTi))))))) else (bif Nat.blt t 180 then (bif Nat.blt t 150 then (bif Nat.blt t 135 then (bif Nat.blt t 127 then (bif Nat.blt t 123 then (bif Nat.blt t 121 then ti_120 else (bif Nat.blt t 122 then ti_121 else ti_122)) else (bif Nat.blt t 125 then noTi else (bif Nat.blt t 126 then noTi else ti_126))) else (bif Nat.blt t 131 then (bif Nat.blt t 129 then (bif Nat.blt t 128 then ti_127 else noTi) else (bif Nat.blt t 130 then noTi else ti_130)) else noTi)) else (bif Nat.blt t 142 then (bif Nat.blt t 138 then noTi else (bif Nat.blt t 140 then (bif Nat.blt t 139 then ti_138 else noTi) else (bif Nat.blt t 141 then noTi else ti_141))) else (bif Nat.blt t 146 then (bif Nat.blt t 144 then noTi else (bif Nat.blt t 145 then ti_144 else noTi)) else noTi))) else (bif Nat.blt t 165 then (bif Nat.blt t 157 then (bif Nat.blt t 153 then (bif Nat.blt t 151 then noTi else (bif Nat.blt t 152 then noTi else ti_152)) else (bif Nat.blt t 155 then noTi else (bif Nat.blt t 156 then noTi else ti_156))) else (bif Nat.blt t 161 then (bif Nat.blt t 159 then (bif Nat.blt t 158 then ti_157 else noTi) else noTi) else (bif Nat.blt t 163 then (bif Nat.blt t 162 then ti_161 else noTi) else noTi))) else (bif Nat.blt t 172 then (bif Nat.blt t 168 then noTi else (bif Nat.blt t 170 then (bif Nat.blt t 169 then ti_168 else noTi) else (bif Nat.blt t 171 then noTi else ti_171))) else (bif Nat.blt t 176 then (bif Nat.blt t 174 then (bif Nat.blt t 173 then noTi else ti_173) else noTi) else noTi)))) else (bif Nat.blt t 210 then (bif Nat.blt t 195 then (bif Nat.blt t 187 then (bif Nat.blt t 183 then (bif Nat.blt t 181 then ti_180 else (bif Nat.blt t 182 then noTi else ti_182)) else noTi) else (bif Nat.blt t 191 then noTi else (bif Nat.blt t 193 then (bif Nat.blt t 192 then ti_191 else noTi) else noTi))) else (bif Nat.blt t 202 then (bif Nat.blt t 198 then (bif Nat.blt t 196 then ti_195 else noTi) else noTi) else (bif Nat.blt t 206 then (bif Nat.blt t 204 then (bif Nat.blt t 203 then ti_202 else noTi) else noTi) else noTi))) else (bif Nat.blt t 225 then (bif Nat.blt t 217 then (bif Nat.blt t 213 then (bif Nat.blt t 211 then ti_210 else noTi) else (bif Nat.blt t 215 then (bif Nat.blt t 214 then noTi else ti_214) else noTi)) else (bif Nat.blt t 221 then (bif Nat.blt t 219 then (bif Nat.blt t 218 then noTi else ti_218) else noTi) else noTi)) else noTi)))) else noTi
theorem zq1787 (t : Nat) (h : 240 ≤ t) : ty t = noTi := by
 have e : Nat.blt t 240 = false := by
  cases hb : Nat.blt t 240
  ·rfl
  ·have := Nat.le_of_ble_eq_true hb
   omega
 unfold ty
 rw [e]
 rfl
def zq1786 : List Nat := [1,2,3,4,5,6,7,8,9,10,11,12,13,14,15,16,17,18,19,20,21,22,23,24,25,26,27,28,29,30,31,32,33,34,35,36,37,38,39,40,41,42,43,44,51,54,57,58,59,61,62,64,67,70,71,90,94,99,100,102,103,105,108,109,116,118,120,121,122,126,127,130,138,141,144,152,156,157,161,168,171,173,180,182,191,195,202,210,214,218]
theorem zq1789 : zq1786.map (fun t => ({ ty t with eq := false,k := none,nk := none,sl := [],gl := none,arr := none,lend := false } : TI)) = zq1786.map (tiOf Tryz.prog) := by kernel_rfl
theorem ty_in : (List.range 240).all (fun t => !(ty t).known || zq1786.contains t) = true := by kernel_rfl
theorem zq1788 (t : Nat) (h : (ty t).known = true) : zq171 Tryz.prog t (ty t) := by
 refine zq1785 h ?_
 have hlt : t < 240 := by
  rcases Nat.lt_or_ge t 240 with h' | h'
  ·exact h'
  ·have : (ty t) = noTi := zq1787 t h'
   rw [this] at h
   cases h
 have h1 := zc17.1 ty_in t (List.mem_range.2 hlt)
 rw [h] at h1
 have hmem : t ∈ zq1786 := by simpa using h1
 have := List.map_inj_left.1 zq1789 t hmem
 exact this
theorem eq_23 : zq170 Tryz.prog 23 (ty 23).zero := zq1760 zq1788 23 (ty 23).zero (by kernel_rfl) (by kernel_rfl) (by kernel_rfl)
theorem eq_32 : zq170 Tryz.prog 32 (ty 32).zero := zq1760 zq1788 32 (ty 32).zero (by kernel_rfl) (by kernel_rfl) (by kernel_rfl)
theorem eq_34 : zq170 Tryz.prog 34 (ty 34).zero := zq1760 zq1788 34 (ty 34).zero (by kernel_rfl) (by kernel_rfl) (by kernel_rfl)
theorem eq_36 : zq170 Tryz.prog 36 (ty 36).zero := zq1760 zq1788 36 (ty 36).zero (by kernel_rfl) (by kernel_rfl) (by kernel_rfl)
theorem eq_38 : zq170 Tryz.prog 38 (ty 38).zero := zq1760 zq1788 38 (ty 38).zero (by kernel_rfl) (by kernel_rfl) (by kernel_rfl)
theorem eq_100 : zq170 Tryz.prog 100 (ty 100).zero := zq1760 zq1788 100 (ty 100).zero (by kernel_rfl) (by kernel_rfl) (by kernel_rfl)
theorem eq_105 : zq170 Tryz.prog 105 (ty 105).zero := zq1760 zq1788 105 (ty 105).zero (by kernel_rfl) (by kernel_rfl) (by kernel_rfl)
def tyEqs : List Nat := [23,32,34,36,38,100,105]
theorem eq_in : (List.range 240).all (fun t => !(ty t).eq || tyEqs.contains t) = true := by kernel_rfl
theorem ty_eq (t : Nat) (h : (ty t).eq = true) : zq170 Tryz.prog t (ty t).zero := by
 have hlt : t < 240 := by
  rcases Nat.lt_or_ge t 240 with h' | h'
  ·exact h'
  ·rw [zq1787 t h'] at h
   cases h
 have h1 := zc17.1 eq_in t (List.mem_range.2 hlt)
 rw [h] at h1
 have hmem : t ∈ tyEqs := by simpa using h1
 simp only [tyEqs,zc28,zc37,or_false] at hmem
 rcases hmem with rfl | rfl | rfl | rfl | rfl | rfl | rfl
 ·exact eq_23
 ·exact eq_32
 ·exact eq_34
 ·exact eq_36
 ·exact eq_38
 ·exact eq_100
 ·exact eq_105
def tyGls : List Nat := []
theorem gl_in : (List.range 240).all (fun t => !(ty t).gl.isSome || tyGls.contains t) = true := by kernel_rfl
theorem ty_gl (t g : Nat) (h : (ty t).gl = some g) : Tryz.prog.globalNamed "yardarm/text.words" = some g ∧ ((ty t).agg = true → Tryz.prog.underlying t = some (.array 6 (ty t).elem)) := by
 have hlt : t < 240 := by
  rcases Nat.lt_or_ge t 240 with h' | h'
  ·exact h'
  ·rw [zq1787 t h'] at h
   cases h
 have h1 := zc17.1 gl_in t (List.mem_range.2 hlt)
 rw [h] at h1
 have hmem : t ∈ tyGls := by simpa using h1
 simp [tyGls] at hmem
def zq1784 : List Nat := []
theorem arr_in : (List.range 240).all (fun t => !(ty t).arr.isSome || zq1784.contains t) = true := by kernel_rfl
theorem ty_arr (t k : Nat) (h : (ty t).arr = some k) : Tryz.prog.underlying t = some (.array k (ty t).elem) := by
 have hlt : t < 240 := by
  rcases Nat.lt_or_ge t 240 with h' | h'
  ·exact h'
  ·rw [zq1787 t h'] at h
   cases h
 have h1 := zc17.1 arr_in t (List.mem_range.2 hlt)
 rw [h] at h1
 have hmem : t ∈ zq1784 := by simpa using h1
 simp [zq1784] at hmem
theorem tyOk : TOk Tryz.prog ty := ⟨zq1788,ty_eq,by kernel_rfl,ty_gl,ty_arr⟩
def fnExt : List Nat := [0,1,119,123,138,167,168,169,170,171,172,173,174,175,176,177,178,179,180,181,182]
def fnB (f : Nat) : Bool := decide (f < 183) && !fnExt.contains f
theorem fn_all : (List.range 183).all (fun f => !fnB f || (match Tryz.prog.funcs[f]? with | some fn => fn.body.isSome && !(fn.name == "runtime.NumGoroutine") | none => false)) = true := by kernel_rfl
theorem fn_ok (f : Nat) (h : fnB f = true) : zq4 Tryz.prog f := by
 have hlt : f < 183 := by
  unfold fnB at h
  simp only [zc4,decide_eq_true_eq] at h
  exact h.1
 have h1 := zc17.1 fn_all f (List.mem_range.2 hlt)
 rw [h] at h1
 simp only [zc10,Bool.false_or] at h1
 unfold zq4
 cases hf : Tryz.prog.funcs[f]? with
 | none => rw [hf] at h1; cases h1
 | some fn =>
  rw [hf] at h1
  simp only [zc4,Bool.not_eq_true'] at h1
  exact ⟨fn,rfl,h1.1,h1.2⟩
end Go.Proofs.YtjolfddpghkabaaGreat
namespace Go.Proofs.YtjolfddpghkabaaGreat
open Go Go.Ma Go.RowKit Go.Lib Go.Proofs
theorem zq1503 {P : Program} (w : World) (dT sT ty elem : TypeId) (s : Nat) (b o dLen dCap : Nat) (a : Addr) (sLen sCap q : Nat) (cs : List Value)
  (hu : P.underlying dT = some (.slice elem)) (hs : (P.info? elem).map (·.size) = some s) (hq : q = Nat.min sLen dLen) (hn : cs.length = q * s)
  (hsrc : ∀ j v,cs[j]? = some v → w.cell? (a.add j) = some v) (hc : ∀ j,j < cs.length → (w.cell? ⟨b,o + j,none⟩).isSome = true) (hf : ∀ j,j < cs.length → w.frozen? ⟨b,o + j,none⟩ = false) (h1 : ∀ v ∈ cs,v.oneCell' = true) :
  (Builtin.copy_ #[dT,sT] ty #[.slice (some ⟨b,o,none⟩) dLen dCap,.slice (some a) sLen sCap]).run P w = .ok (goInt q) (w.setCells b o cs) := by
 have hl := run_loadCells_list (P := P) w a cs hsrc
 have hst := run_storeCells_cells (P := P) b o cs 0 w (by simpa using hc) (by simpa using hf) h1
 cases hq' : P.info? elem with
 | none => simp [hq'] at hs
 | some i =>
  have hi : i.size = s := by simpa [hq'] using hs
  rw [hn] at hl
  subst hi
  simp [Builtin.copy_,run_underlying hu,Builtin.lenOf,Builtin.firstCells,sizeOf,typeInfo,hq',← hq,hl,hst]
theorem zq755 : (Tryz.prog.info? 105).map (fun i => (i.zero.map (·.cells.size),i.size,i.bytes)) = some (some 5,5,48) := by kernel_rfl
theorem zq1579 (w : World) : (Go.sizeOf 105).run Tryz.prog w = .ok 5 w := by kernel_rfl
theorem zq1121 : Tryz.prog.follows .mixedOrders = true := by kernel_rfl
set_option maxHeartbeats 4000000 in
set_option maxRecDepth 100000 in
/-- There is room, i < len(s): in place. -/
theorem zq787 (b off n c i vb voff m vc : Nat) (cs vs : List Value) (w : World) (hi : i < n) (hm : 0 < m) (hroom : n + m ≤ c) (hc63 : c ≤ 9223372036854775807) (hvb : vb ≠ b)
  (hcl : cs.length = n * 5) (hvl : vs.length = m * 5)
  (hcs : ∀ j v,cs[j]? = some v → w.cell? ⟨b,off + j,none⟩ = some v) (hsp : ∀ j,j < (n + m) * 5 → (w.cell? ⟨b,off + j,none⟩).isSome = true) (hfz : ∀ j,j < (n + m) * 5 → w.frozen? ⟨b,off + j,none⟩ = false)
  (hvs : ∀ j v,vs[j]? = some v → w.cell? ⟨vb,voff + j,none⟩ = some v) (h1c : ∀ v ∈ cs,v.oneCell' = true) (h1v : ∀ v ∈ vs,v.oneCell' = true)
  (tA tB : TypeId) (kA kB : Nat) (hsa : w.shape? vb = some (tA,kA)) (hsb : w.shape? b = some (tB,kB)) (hkB : kB ≠ 0) (hfa : w.frozen? ⟨vb,voff,none⟩ = false) (hfe : w.frozen? ⟨vb,kA,none⟩ = false) :
  Calls Tryz.prog 131 #[.slice (some ⟨b,off,none⟩) n c,.int .i64 i,.slice (some ⟨vb,voff,none⟩) m vc] w fun e w' =>
   e = .returned (.slice (some ⟨b,off,none⟩) (n + m) c) ∧ w' = (w.drew.setCells b (off + (i + m) * 5) (cs.drop (i * 5))).setCells b (off + i * 5) vs := by
 have u30 := run_underlying Tryz.underlying59
 have z49 := zq1579
 have hz1 : ¬ ((m : Int) = 0) := by omega
 have hz2 : ¬ ((i : Int) = (n : Int)) := by omega
 have hsz : (Tryz.prog.info? 105).map (·.size) = some 5 := by
  obtain ⟨i0,hi0,hz⟩ := zc7.1 zq755
  simp only [zc11] at hz
  rw [hi0]; simp [hz.2.1]
 have hov : ∀ lb cb,(callFunc 138 #[.slice (some ⟨vb,voff,none⟩) m vc,.slice (some ⟨b,off + (i + m) * 5,none⟩) lb cb]).run Tryz.prog w = .ok (.value (.bool false)) w := fun lb cb => by
  rw [run_callFunc_extern Tryz.func138 (by kernel_rfl) (by kernel_rfl) (by kernel_rfl) (e := Extern.SlicesOverlaps.overlaps #[59,59] #[4]) (by kernel_rfl),
   Lib.run_overlaps_apart w 59 4 105 Tryz.underlying59 5 zq1579 ⟨vb,voff,none⟩ ⟨b,off + (i + m) * 5,none⟩ m vc lb cb hvb tA tB kA kB hsa hsb hkB hfa hfe]
  rfl
 have hdl : (cs.drop (i * 5)).length = (n - i) * 5 := by rw [zc40,hcl]; omega
 have mixed := zq1121
 have hw1 : IntKind.i64.wrap ((i : Int) + (m : Int)) = (i : Int) + (m : Int) := by rw [IntKind.wrap_i64]; omega
 have hb1 : (0 : Int) ≤ (i : Int) + (m : Int) := by omega
 have hin : i ≤ n := by omega
 have htn : ((i : Int) + (m : Int)).toNat = i + m := by omega
 have hb2 : ¬ (c = i + m) := by omega
 have hb3 : (i : Int) ≤ (n : Int) + (m : Int) := by omega
 have hb4 : ¬ (c = i) := by omega
 have hcp1 : ∀ ty dc sc,(Builtin.copy_ #[59,59] ty #[.slice (some ⟨b,off + (i + m) * 5,none⟩) (n + m - (i + m)) dc,.slice (some ⟨b,off + i * 5,none⟩) (n + m - i) sc]).run Tryz.prog w.drew = .ok (goInt ((n - i : Nat) : Int)) (w.drew.setCells b (off + (i + m) * 5) (cs.drop (i * 5))) := fun ty dc sc =>
  zq1503 w.drew _ _ ty 105 5 b (off + (i + m) * 5) (n + m - (i + m)) dc ⟨b,off + i * 5,none⟩ (n + m - i) sc (n - i) (cs.drop (i * 5)) Tryz.underlying59 hsz (by simp only [Nat.min_def]; split <;> omega) hdl
   (fun j v hj => by rw [Addr.add_lit,Nat.add_assoc]; exact hcs (i * 5 + j) v (by rwa [zc39] at hj))
   (fun j hj => by rw [Nat.add_assoc]; exact hsp _ (by omega)) (fun j hj => by rw [Nat.add_assoc]; exact hfz _ (by omega)) (fun v hv => h1c v (List.mem_of_mem_drop hv))
 obtain ⟨W1,hW1⟩ : ∃ W1,W1 = w.drew.setCells b (off + (i + m) * 5) (cs.drop (i * 5)) := ⟨_,rfl⟩
 have hsp1 : ∀ k,k < (n + m) * 5 → (W1.cell? ⟨b,off + k,none⟩).isSome = true := fun k hk => by
  rw [hW1]
  exact isSome_setCells b _ _ _ (fun j hj => by rw [Nat.add_assoc]; exact hsp _ (by omega)) _ (hsp k hk)
 have hcp2 : ∀ (W : World),(∀ x,W.cell? x = W1.cell? x) → (∀ x,W.frozen? x = W1.frozen? x) → ∀ ty dc,(Builtin.copy_ #[59,59] ty #[.slice (some ⟨b,off + i * 5,none⟩) (n + m - i) dc,.slice (some ⟨vb,voff,none⟩) m vc]).run Tryz.prog W = .ok (goInt m) (W.setCells b (off + i * 5) vs) := fun W hWc hWf ty dc =>
  zq1503 W _ _ ty 105 5 b (off + i * 5) (n + m - i) dc ⟨vb,voff,none⟩ m vc m vs Tryz.underlying59 hsz (by simp only [Nat.min_def]; split <;> omega) hvl
   (fun j v hj => by
    rw [Addr.add_lit,hWc,hW1,World.cell?_setCells_out b _ _ _ _ (fun h _ => absurd h hvb)]
    exact hvs j v hj)
   (fun j hj => by rw [hWc,Nat.add_assoc]; exact hsp1 _ (by omega)) (fun j hj => by rw [hWf,hW1,World.frozen?_setCells,Nat.add_assoc]; exact hfz _ (by omega)) h1v
 rw [← hW1] at hcp1
 go_enter Tryz.func131,Tryz.ntmps131
 go_wp2_with (simp only [hov])
 go_region_law_o (refine step_copy_runI rfl _ _ 59 59 rfl _ _ (by simp [Act.eval,Act.put]) (by simp [Act.eval,Act.put]) (hcp1 _ _ _) ?_)
 go_wp2_with (at_builtin; refine wpList_copy_runI _ rfl _ _ 59 59 rfl _ _ rfl rfl (hcp2 _ (fun _ => rfl) (fun _ => rfl) _ _) ?_)
 go_ret
 first | exact ⟨rfl,rfl⟩ | exact ⟨rfl,by rw [hW1]⟩
set_option maxHeartbeats 4000000 in
set_option maxRecDepth 100000 in
/-- i < len(s), no room: a new row. -/
theorem zq784 (b off n c i vb voff m vc : Nat) (cs vs : List Value) (z : Value) (hz0 : (Tryz.prog.info? 105).map (·.zero) = some (some z)) (w : World) (hi : i < n) (hm : 0 < m) (hnc : n ≤ c) (hroom : c < n + m) (hbig : (n + m) * 48 ≤ 140737488355328)
  (hcl : cs.length = n * 5) (hvl : vs.length = m * 5)
  (hcs : ∀ j v,cs[j]? = some v → w.cell? ⟨b,off + j,none⟩ = some v)
  (hvs : ∀ j v,vs[j]? = some v → w.cell? ⟨vb,voff + j,none⟩ = some v) (h1c : ∀ v ∈ cs,v.oneCell' = true) (h1v : ∀ v ∈ vs,v.oneCell' = true) :
  Calls Tryz.prog 131 #[.slice (some ⟨b,off,none⟩) n c,.int .i64 i,.slice (some ⟨vb,voff,none⟩) m vc] w fun e w' =>
   e = .returned (.slice (some ⟨w.heap.size,0,none⟩) (n + m) (grownCap w (n + m) c 105)) ∧
   w' = (((w.alloc (.cells ((cs.take (i * 5)).toArray ++ Builtin.zeroCells z.cells (n + m - i) ++ Builtin.zeroCells z.cells (grownCap w (n + m) c 105 - (n + m))) 105)).drew.setCells w.heap.size (i * 5) vs).drew).setCells w.heap.size ((i + m) * 5) (cs.drop (i * 5)) := by
 have u30 := run_underlying Tryz.underlying59
 have z49 := zq1579
 have mixed := zq1121
 obtain ⟨i0,hi0,hz⟩ := zc7.1 zq755
 simp only [zc11] at hz
 obtain ⟨hzc,hzs,hzb⟩ := hz
 have hz0 : i0.zero = some z := by rw [hi0] at hz0; simpa using hz0
 have hzc : z.cells.size = 5 := by rw [hz0] at hzc; simpa using hzc
 have hz1 : ¬ ((m : Int) = 0) := by omega
 have hz2 : ¬ ((i : Int) = (n : Int)) := by omega
 have hz3 : (c : Int) < (n : Int) + (m : Int) := by omega
 have hsz : (Tryz.prog.info? 105).map (·.size) = some 5 := by rw [hi0]; simp [hzs]
 have hbw : b < w.heap.size := block_lt_of_cell (hcs 0 _ (zc0 (by omega)))
 have hvw : vb < w.heap.size := block_lt_of_cell (hvs 0 _ (zc0 (by omega)))
 have hkk : (n : Int) + (m : Int) - (i : Int) = ((n + m - i : Nat) : Int) := by omega
 have hik : i + (n + m - i) = n + m := by omega
 have hold : (Builtin.firstCells i0.size i (.slice (some ⟨b,off,none⟩) i c)).run Tryz.prog w.drew = .ok (cs.take (i * 5)).toArray w.drew := by
  rw [hzs]
  exact run_firstCells_some w.drew 5 i ⟨b,off,none⟩ i c (cs.take (i * 5)) (by rw [zc20]; omega) (fun j v hj => by
   rw [Addr.add_lit]
   rw [zc14] at hj
   split at hj
   ·exact hcs j v hj
   ·cases hj)
 have hrz : ∀ ty,(Builtin.append_ #[59,3] ty #[.slice (some ⟨b,off,none⟩) i c,.int .i64 ((n : Int) + (m : Int) - (i : Int))]).run Tryz.prog w =
   .ok (.slice (some ⟨w.heap.size,0,none⟩) (n + m) (grownCap w (n + m) c 105)) (w.drew.alloc (.cells ((cs.take (i * 5)).toArray ++ Builtin.zeroCells z.cells (n + m - i) ++ Builtin.zeroCells z.cells (grownCap w (n + m) c 105 - (n + m))) 105)) := fun ty => by
  have h := Lib.run_append_grow_zeros w 59 3 ty 105 i0 z .i64 .i64 Tryz.underlying59 Tryz.underlying3 hi0 hz0 (some ⟨b,off,none⟩) i c (cs.take (i * 5)) hold (n + m - i) (by omega) (by omega) (by omega) (by omega) (by rw [hzb]; omega) (by rw [hzb,hik]; exact growslice_fits hroom hbig)
  rw [hik] at h
  rw [hkk]
  exact h
 obtain ⟨G,hG⟩ : ∃ G,G = grownCap w (n + m) c 105 := ⟨_,rfl⟩
 obtain ⟨ROW,hROW⟩ : ∃ ROW : Array Value,ROW = (cs.take (i * 5)).toArray ++ Builtin.zeroCells z.cells (n + m - i) ++ Builtin.zeroCells z.cells (G - (n + m)) := ⟨_,rfl⟩
 rw [← hG] at hrz ⊢
 rw [← hROW] at hrz ⊢
 have hRl : (n + m) * 5 ≤ ROW.size := by
  rw [hROW]
  simp [Builtin.zeroCells,hzc]
  omega
 obtain ⟨W1,hW1⟩ : ∃ W1,W1 = w.drew.alloc (.cells ROW 105) := ⟨_,rfl⟩
 rw [← hW1] at hrz
 have hN : ∀ j,j < (n + m) * 5 → (W1.cell? ⟨w.heap.size,j,none⟩).isSome = true := fun j hj => by
  rw [hW1,World.cell?_alloc_at (w := w.drew) ROW _ w.heap.size j rfl,zc44 (by omega)]; rfl
 have hNf : ∀ j,W1.frozen? ⟨w.heap.size,j,none⟩ = false := fun j => by rw [hW1]; exact World.frozen?_alloc_at (w := w.drew) ROW _ w.heap.size j rfl
 have hOb : ∀ j v,w.cell? ⟨b,j,none⟩ = some v → W1.cell? ⟨b,j,none⟩ = some v := fun j v h => by rw [hW1,World.cell?_alloc_past (w := w.drew) _ b j hbw]; exact h
 have hOv : ∀ j v,w.cell? ⟨vb,j,none⟩ = some v → W1.cell? ⟨vb,j,none⟩ = some v := fun j v h => by rw [hW1,World.cell?_alloc_past (w := w.drew) _ vb j hvw]; exact h
 have hcpA : ∀ (W : World),(∀ x,W.cell? x = W1.cell? x) → (∀ x,W.frozen? x = W1.frozen? x) → ∀ ty dc,(Builtin.copy_ #[59,59] ty #[.slice (some ⟨w.heap.size,i * 5,none⟩) (n + m - i) dc,.slice (some ⟨vb,voff,none⟩) m vc]).run Tryz.prog W = .ok (goInt (m : Int)) (W.setCells w.heap.size (i * 5) vs) := fun W hWc hWf ty dc =>
  zq1503 W _ _ ty 105 5 w.heap.size (i * 5) (n + m - i) dc ⟨vb,voff,none⟩ m vc m vs Tryz.underlying59 hsz (by simp only [Nat.min_def]; split <;> omega) hvl
   (fun j v hj => by rw [Addr.add_lit,hWc]; exact hOv _ v (hvs j v hj))
   (fun j hj => by rw [hWc]; exact hN _ (by omega)) (fun j hj => by rw [hWf]; exact hNf _) h1v
 have hGn : n + m ≤ G := by rw [hG]; exact grownCap_ge w _ _ _
 have hG63 : G ≤ 9223372036854775807 := by
  have := grownCap_le_maxLen w (n + m) c 105 (by unfold maxLen; omega)
  rw [← hG] at this
  unfold maxLen at this
  omega
 have hGi : ¬ (G = i) := by omega
 have hGim : ¬ (G = i + m) := by omega
 have hci : ¬ (c = i) := by omega
 have hbN : b ≠ w.heap.size := by omega
 have hdl : (cs.drop (i * 5)).length = (n - i) * 5 := by rw [zc40,hcl]; omega
 have hcpB : ∀ (W : World),(∀ x,W.cell? x = (W1.setCells w.heap.size (i * 5) vs).cell? x) → (∀ x,W.frozen? x = (W1.setCells w.heap.size (i * 5) vs).frozen? x) → ∀ ty dc sc,(Builtin.copy_ #[59,59] ty #[.slice (some ⟨w.heap.size,(i + m) * 5,none⟩) (n + m - (i + m)) dc,.slice (some ⟨b,off + i * 5,none⟩) (n - i) sc]).run Tryz.prog W = .ok (goInt ((n - i : Nat) : Int)) (W.setCells w.heap.size ((i + m) * 5) (cs.drop (i * 5))) := fun W hWc hWf ty dc sc =>
  zq1503 W _ _ ty 105 5 w.heap.size ((i + m) * 5) (n + m - (i + m)) dc ⟨b,off + i * 5,none⟩ (n - i) sc (n - i) (cs.drop (i * 5)) Tryz.underlying59 hsz (by simp only [Nat.min_def]; split <;> omega) hdl
   (fun j v hj => by
    rw [Addr.add_lit,hWc,World.cell?_setCells_out _ _ _ _ _ (fun h _ => absurd h hbN),Nat.add_assoc]
    exact hOb _ v (hcs (i * 5 + j) v (by rwa [zc39] at hj)))
   (fun j hj => by rw [hWc]; exact isSome_setCells _ _ _ _ (fun t ht => hN _ (by omega)) _ (hN _ (by omega)))
   (fun j hj => by rw [hWf,World.frozen?_setCells]; exact hNf _) (fun v hv => h1c v (List.mem_of_mem_drop hv))
 subst hW1
 have hE1 : ∀ x,((w.alloc (.cells ROW 105)).drew).cell? x = (w.drew.alloc (.cells ROW 105)).cell? x := fun x => rfl
 have hE2 : ∀ x,((w.alloc (.cells ROW 105)).drew).frozen? x = (w.drew.alloc (.cells ROW 105)).frozen? x := fun x => rfl
 have hF1 : ∀ x,(((w.alloc (.cells ROW 105)).drew.setCells w.heap.size (i * 5) vs).drew).cell? x = ((w.drew.alloc (.cells ROW 105)).setCells w.heap.size (i * 5) vs).cell? x := fun x => rfl
 have hF2 : ∀ x,(((w.alloc (.cells ROW 105)).drew.setCells w.heap.size (i * 5) vs).drew).frozen? x = ((w.drew.alloc (.cells ROW 105)).setCells w.heap.size (i * 5) vs).frozen? x := fun x => rfl
 have hw1 : IntKind.i64.wrap ((i : Int) + (m : Int)) = (i : Int) + (m : Int) := by rw [IntKind.wrap_i64]; omega
 have hb1 : (0 : Int) ≤ (i : Int) + (m : Int) := by omega
 have hin : i ≤ n := by omega
 have htn : ((i : Int) + (m : Int)).toNat = i + m := by omega
 have hb3 : (i : Int) ≤ (n : Int) := by omega
 clear hkk hik hold hROW hG hRl
 go_enter Tryz.func131,Tryz.ntmps131
 go_wp2_with (first
  | (at_builtin; refine Lib.wpList_append_run _ rfl _ _ _ _ rfl _ _ rfl rfl _ _ (hrz _) ?_)
  | (at_builtin; refine wpList_copy_runI _ rfl _ _ 59 59 rfl _ _ rfl rfl (hcpA _ hE1 hE2 _ _) ?_)
  | (at_builtin; refine wpList_copy_runI _ rfl _ _ 59 59 rfl _ _ rfl rfl (hcpB _ (fun _ => rfl) (fun _ => rfl) _ _ _) ?_))
 go_region_law_o (refine step_copy_runI rfl _ _ 59 59 rfl (.slice (some ⟨w.heap.size,(i + m) * 5,none⟩) (n + m - (i + m)) (G - (i + m))) (.slice (some ⟨b,off + i * 5,none⟩) (n - i) (c - i)) (by simp [Act.eval,Act.put]) (by simp [Act.eval,Act.put]) (hcpB _ hF1 hF2 3 (G - (i + m)) (c - i)) ?_)
 go_wp2
 go_ret
 exact ⟨rfl,rfl⟩
set_option maxHeartbeats 4000000 in
set_option maxRecDepth 100000 in
/-- At the end: whatever append does. -/
theorem zq782 (v : Value) (base : Option Addr) (n c : Nat) (vb vc m : Nat) (v' : Value) (w w' : World) (hm : 0 < m) (hnc : n ≤ c)
  (hrun : ∀ ty,(Builtin.append_ #[59,59] ty #[.slice base n c,.slice (some ⟨vb,0,none⟩) m vc]).run Tryz.prog w = .ok v' w') (hsl : ∃ A N C,v' = .slice A N C) (hnil : base = none → n = 0) :
  Calls Tryz.prog 131 #[.slice base n c,.int .i64 n,.slice (some ⟨vb,0,none⟩) m vc] w fun e w2 => e = .returned v' ∧ w2 = w' := by
 have u30 := run_underlying Tryz.underlying59
 have z49 := zq1579
 have mixed := zq1121
 have hz1 : ¬ ((m : Int) = 0) := by omega
 obtain ⟨A,N,C,rfl⟩ := hsl
 go_enter Tryz.func131,Tryz.ntmps131
 cases base with
 | none =>
  have h0 := hnil rfl
  subst h0
  go_wp2_with (at_builtin; refine Lib.wpList_append_run _ rfl _ _ _ _ rfl _ _ rfl rfl _ _ (hrun _) ?_)
  all_goals (go_ret; exact ⟨rfl,rfl⟩)
 | some a =>
  obtain ⟨ab,ao,asp⟩ := a
  go_wp2_with (at_builtin; refine Lib.wpList_append_run _ rfl _ _ _ _ rfl _ _ rfl rfl _ _ (hrun _) ?_)
  all_goals (go_ret; exact ⟨rfl,rfl⟩)
theorem zq781 {arr : Array Value} {n i : Nat} {cs xs : List Value} (hi : i < n) (hcl : cs.length = n * 5) (hxl : xs.length = 5) (hsz : (n + 1) * 5 ≤ arr.size) (h0 : ∀ q,q < i * 5 → arr[q]? = cs[q]?) :
  (zq1526 (zq1526 arr ((i + 1) * 5) (cs.drop (i * 5))) (i * 5) xs).toList.take ((n + 1) * 5) = cs.take (i * 5) ++ xs ++ cs.drop (i * 5) ∧
  (zq1526 (zq1526 arr (i * 5) xs) ((i + 1) * 5) (cs.drop (i * 5))).toList.take ((n + 1) * 5) = cs.take (i * 5) ++ xs ++ cs.drop (i * 5) := by
 have hdl : (cs.drop (i * 5)).length = (n - i) * 5 := by rw [zc40,hcl]; omega
 have hrhs : ∀ q : Nat,(cs.take (i * 5) ++ xs ++ cs.drop (i * 5))[q]? = if q < i * 5 then cs[q]? else if q < (i + 1) * 5 then xs[q - i * 5]? else (cs.drop (i * 5))[q - (i + 1) * 5]? := by
  intro q
  rw [List.append_assoc,zc29,zc20,Nat.min_eq_left (by omega)]
  split
  ·rw [zc14,if_pos (by assumption)]
  ·rw [zc29,hxl]
   by_cases hq : q < (i + 1) * 5
   ·rw [if_pos (by omega),if_pos hq]
   ·rw [if_neg (by omega),if_neg hq]
    congr 1
    omega
 constructor
 ·apply List.ext_getElem?
  intro q
  rw [hrhs,zc14]
  by_cases hq : q < (n + 1) * 5
  ·rw [if_pos hq,zc25,zq1527 _ _ _ _ (by rw [zq1528]; omega)]
   by_cases h1 : q < i * 5
   ·rw [if_neg (by omega),if_pos h1,zq1527 _ _ _ _ (by omega),if_neg (by omega),h0 q h1]
   ·rw [if_neg h1]
    by_cases h2 : q < (i + 1) * 5
    ·rw [if_pos (by omega),if_pos h2]
    ·rw [if_neg (by omega),if_neg h2,zq1527 _ _ _ _ (by omega),if_pos (by omega)]
  ·rw [if_neg hq,if_neg (by omega),if_neg (by omega),zc22 (by omega)]
 ·apply List.ext_getElem?
  intro q
  rw [hrhs,zc14]
  by_cases hq : q < (n + 1) * 5
  ·rw [if_pos hq,zc25,zq1527 _ _ _ _ (by rw [zq1528]; omega)]
   by_cases h1 : q < i * 5
   ·rw [if_neg (by omega),if_pos h1,zq1527 _ _ _ _ (by omega),if_neg (by omega),h0 q h1]
   ·rw [if_neg h1]
    by_cases h2 : q < (i + 1) * 5
    ·rw [if_neg (by omega),if_pos h2,zq1527 _ _ _ _ (by omega),if_pos (by omega)]
    ·rw [if_pos (by omega),if_neg h2]
  ·rw [if_neg hq,if_neg (by omega),if_neg (by omega),zc22 (by omega)]
theorem zq785 (base : Nat) (w : World) (v u : Value) (n i : Nat) (cs xs : List Value) (h1 : w.ownsRow base 105 5 v n cs) (h2 : w.ownsRow base 105 5 u 1 xs) (hap : ∀ b,v.ownBlock = some b → u.ownBlock ≠ some b) (hc1 : ∀ x ∈ cs,oneC x = true) (hc2 : ∀ x ∈ xs,oneC x = true)
  (hbase : base ≤ w.heap.size) (hin : i ≤ n) (hbig : n + 1 ≤ 274877906944) :
  Calls Tryz.prog 131 #[v,.int .i64 (i : Int),u] w fun r w' => ∃ v',r = .returned v' ∧ w'.ownsRow base 105 5 v' (n + 1) (cs.take (i * 5) ++ xs ++ cs.drop (i * 5)) ∧ w.grownBy w' v.ownBlock ∧ (∀ b,v'.ownBlock = some b → v.ownBlock = some b ∨ w.heap.size ≤ b) := by
 obtain ⟨i0,hi0,hz⟩ := zc7.1 zq755
 simp only [zc11] at hz
 obtain ⟨hzc,hzs,hzb⟩ := hz
 obtain ⟨z,hz0,hzc⟩ := zc7.1 hzc
 have hcl := h1.1
 have hxl : xs.length = 5 := by have := h2.1; omega
 rcases h2.2 with ⟨_,h0⟩ | ⟨vb,vc,curv,rfl,hvbase,hvheap,hvc,hvcm,hvsz,hvtake⟩
 ·cases h0
 have hvs : ∀ j x,xs[j]? = some x → w.cell? ⟨vb,0 + j,none⟩ = some x := by
  intro j x hj
  rw [Nat.zero_add,zq378 hvheap,← zc25]
  rw [← hvtake,zc14] at hj
  split at hj
  ·exact hj
  ·cases hj
 have h1v : ∀ x ∈ xs,x.oneCell' = true := fun x hx => zq1178 (hc2 x hx)
 have h1c : ∀ x ∈ cs,x.oneCell' = true := fun x hx => zq1178 (hc1 x hx)
 by_cases hine : i = n
 ·subst hine
  have htd : cs.take (i * 5) ++ xs ++ cs.drop (i * 5) = cs ++ xs := by rw [List.take_of_length_le (by omega),zc18 (by omega),List.append_nil]
  rw [htd]
  have hown5 : w.ownsRow base 105 i0.size v i cs := by rw [hzs]; exact h1
  obtain ⟨v',w',hrun,hown',hgb,hblk⟩ := zq302 (P := Tryz.prog) w base 59 0 105 i0 z Tryz.underlying59 hi0 hz0 (by rw [hzs]; exact hzc) (by omega) v i cs hown5 (some ⟨vb,0,none⟩) 1 vc xs (by rw [hzs]; omega) (by simp)
   (fun ad had j x hj => by
    cases had
    rw [zq237]
    exact hvs j x hj) h1v (by unfold maxLen; omega) (by rw [hzb]; omega) hbase
  have hrun' : ∀ ty,(Builtin.append_ #[59,59] ty #[v,.slice (some ⟨vb,0,none⟩) 1 vc]).run Tryz.prog w = .ok v' w' := fun ty => by
   rw [← hrun]
   rfl
  rw [hzs] at hown'
  have hsl : ∃ A N C,v' = .slice A N C := by
   rcases hown'.2 with ⟨h,_⟩ | ⟨g,cp,cur,h,_⟩
   ·exact ⟨_,_,_,h⟩
   ·exact ⟨_,_,_,h⟩
  have hv : ∃ A c,v = .slice A i c ∧ i ≤ c ∧ (A = none → i = 0) := by
   rcases h1.2 with ⟨h,h0⟩ | ⟨g,cp,cur,h,_,_,hc,_⟩
   ·exact ⟨none,0,by rw [h,h0],by omega,fun _ => h0⟩
   ·exact ⟨_,cp,h,hc,fun h => by cases h⟩
  obtain ⟨A,c,rfl,hc,hnil⟩ := hv
  refine (zq782 (.slice A i c) A i c vb vc 1 v' w w' (by omega) hc hrun' hsl hnil).mono ?_
  rintro e w2 ⟨rfl,rfl⟩
  exact ⟨v',rfl,hown',hgb,hblk⟩
 ·have hi : i < n := by omega
  rcases h1.2 with ⟨_,h0⟩ | ⟨g,cap,cur,rfl,hgbase,hgheap,hnc,hcm,hgsz,hgtake⟩
  ·omega
  have hvbg : vb ≠ g := fun e => hap g rfl (by rw [e]; rfl)
  have hcs : ∀ j x,cs[j]? = some x → w.cell? ⟨g,0 + j,none⟩ = some x := by
   intro j x hj
   rw [Nat.zero_add,zq378 hgheap,← zc25]
   rw [← hgtake,zc14] at hj
   split at hj
   ·exact hj
   ·cases hj
  by_cases hroom : n + 1 ≤ cap
  ·refine (zq787 g 0 n cap i vb 0 1 vc cs xs w hi (by omega) hroom (by unfold maxLen at hcm; omega) hvbg hcl (by omega) hcs
    (fun j hj => by rw [Nat.zero_add,zq378 hgheap,zc44 (by omega)]; rfl) (fun j hj => by simp [World.frozen?,hgheap]) hvs h1c h1v 105 105 curv.size cur.size
    (by simp [World.shape?,hvheap]) (by simp [World.shape?,hgheap]) (by omega) (by simp [World.frozen?,hvheap]) (by simp [World.frozen?,hvheap])).mono ?_
   rintro e w' ⟨rfl,rfl⟩
   have hg0 : w.drew.heap[g]? = some (.cells cur 105 (0,0)) := hgheap
   obtain ⟨a1,a2,a3,a4,a5,a6⟩ := zq1530 w.drew g (0 + (i + 1) * 5) (cs.drop (i * 5)) cur 105 (0,0) hg0
   obtain ⟨b1,b2,b3,b4,b5,b6⟩ := zq1530 _ g (0 + i * 5) xs _ 105 (0,0) a1
   have hdl : (cs.drop (i * 5)).length = (n - i) * 5 := by rw [zc40,hcl]; omega
   refine ⟨_,rfl,⟨?_,.inr ⟨g,cap,_,rfl,hgbase,b1,hroom,hcm,by rw [zq1528,zq1528]; exact hgsz,?_⟩⟩,⟨b4.trans a4,b5.trans a5,b6.trans a6,by rw [b3,a3]; exact zc47 _,fun k hk hne => ?_⟩,fun b hb => .inl hb⟩
   ·simp only [zc24,zc20,hdl,hxl]; omega
   ·rw [Nat.zero_add,Nat.zero_add]
    refine (zq781 hi hcl hxl (by omega) fun q hq => ?_).1
    rw [← hgtake,zc14,if_pos (by omega),zc25]
   ·have hkg : k ≠ g := fun e => hne (by rw [e]; rfl)
    exact (b2 k hkg).trans (a2 k hkg)
  ·refine (zq784 g 0 n cap i vb 0 1 vc cs xs z (by rw [hi0]; simp [hz0]) w hi (by omega) hnc (by omega) (by omega) hcl (by omega) hcs hvs h1c h1v).mono ?_
   rintro e w' ⟨rfl,rfl⟩
   obtain ⟨G,hG⟩ : ∃ G,G = grownCap w (n + 1) cap 105 := ⟨_,rfl⟩
   have hGn : n + 1 ≤ G := by rw [hG]; exact grownCap_ge w _ _ _
   have hG63 : G ≤ maxLen := by rw [hG]; exact grownCap_le_maxLen w (n + 1) cap 105 (by unfold maxLen; omega)
   rw [← hG]
   obtain ⟨ROW,hROW⟩ : ∃ ROW : Array Value,ROW = (cs.take (i * 5)).toArray ++ Builtin.zeroCells z.cells (n + 1 - i) ++ Builtin.zeroCells z.cells (G - (n + 1)) := ⟨_,rfl⟩
   rw [← hROW]
   have hRs : ROW.size = G * 5 := by
    rw [hROW]
    simp [Builtin.zeroCells,hzc]
    omega
   have hR0 : ∀ q,q < i * 5 → ROW[q]? = cs[q]? := fun q hq => by
    rw [hROW,Array.append_assoc,Array.getElem?_append_left (by simp; omega)]
    simp only [List.getElem?_toArray,zc14,if_pos hq]
   have hh : ((w.alloc (.cells ROW 105)).drew).heap[w.heap.size]? = some (.cells ROW 105 (0,0)) := by
    show (w.heap.push _)[w.heap.size]? = _
    exact Array.getElem?_push_size
   obtain ⟨a1,a2,a3,a4,a5,a6⟩ := zq1530 _ w.heap.size (i * 5) xs ROW 105 (0,0) hh
   have a1' : (((w.alloc (.cells ROW 105)).drew.setCells w.heap.size (i * 5) xs).drew).heap[w.heap.size]? = _ := a1
   obtain ⟨b1,b2,b3,b4,b5,b6⟩ := zq1530 _ w.heap.size ((i + 1) * 5) (cs.drop (i * 5)) _ 105 (0,0) a1'
   have hdl : (cs.drop (i * 5)).length = (n - i) * 5 := by rw [zc40,hcl]; omega
   have hold : ∀ k,k < w.heap.size → ((w.alloc (.cells ROW 105)).drew).heap[k]? = w.heap[k]? := fun k hk => by
    show (w.heap.push _)[k]? = _
    rw [Array.getElem?_push,if_neg (by omega)]
   refine ⟨_,rfl,⟨?_,.inr ⟨w.heap.size,G,_,rfl,hbase,b1,hGn,hG63,by rw [zq1528,zq1528]; exact hRs,?_⟩⟩,⟨b4.trans a4,b5.trans a5,b6.trans a6,?_,fun k hk hne => ?_⟩,fun b hb => .inr ?_⟩
   ·simp only [zc24,zc20,hdl,hxl]; omega
   ·exact (zq781 hi hcl hxl (by omega) hR0).2
   ·rw [b3]
    show w.heap.size ≤ ((w.alloc (.cells ROW 105)).drew.setCells w.heap.size (i * 5) xs).heap.size
    rw [a3]
    show w.heap.size ≤ (w.heap.push _).size
    simp
   ·exact ((b2 k (by omega)).trans (a2 k (by omega))).trans (hold k hk)
   ·cases hb
    exact zc47 _
def zq1620 : Con := zq769 .lease 105
theorem zq1621 : TrOk Tryz.prog 131 zq1620 := zq786 .lease 105 zq785
end Go.Proofs.YtjolfddpghkabaaGreat
