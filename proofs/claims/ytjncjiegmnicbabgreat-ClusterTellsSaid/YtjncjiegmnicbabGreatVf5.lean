/-
  Parts: Sd Se Sf Sg Sh Si Sj Sk Ps Ta Tb Ua Ub Uc Sl Ud Ue Ty Hd.
-/
import Derived.Test.YtjncjiegmnicbabGreatRows
import Derived.WalkKit
import Derived.ProofKit
import Derived.Lib.Walk
import Derived.Lib.SliceRun
import Derived.Lib.JoinLaws
import Derived.Lib.AppendZeros
import Derived.Lib.AppendZerosOnto
import Derived.Lib.Overlaps
import Derived.Laws.Externs
import Derived.Laws.IdiomCopy
import Derived.Laws.AppendOwn
import Derived.Shelf.Spec.SlicesInsertGrow
import Derived.Test.YtjncjiegmnicbabGreatVf4
set_option linter.unusedVariables false
set_option linter.unusedSimpArgs false
open List renaming getElem?_eq_getElem → zc0, getElem?_eq_some_iff → zc1, getD_eq_getElem?_getD → zc3, mem_of_getElem? → zc5, getElem?_append_left → zc6, getElem?_cons_zero → zc13, getElem?_take → zc14, all_eq_true → zc17, drop_of_length_le → zc18, length_take → zc20, length_cons → zc21, getElem?_eq_none → zc22, length_append → zc24, take_succ_eq_append_getElem → zc26, mem_cons → zc28, getElem?_append → zc29, mem_iff_getElem? → zc30, getElem?_cons_succ → zc35, mem_append → zc36, not_mem_nil → zc37, getElem?_drop → zc39, length_drop → zc40, nil_append → zc42, length_set → zc43, pairwise_cons → zc45
open Option.some renaming injEq → zc2
open Bool renaming and_eq_true → zc4, not_true → zc10, false_eq_true → zc16, not_false → zc19
open Option renaming map_eq_some_iff → zc7
open Prod.mk renaming injEq → zc11
open Array renaming getElem?_toList → zc25, getElem?_eq_getElem → zc44
open Int renaming toNat_natCast → zc41, le_refl → zc48
open Nat renaming le_refl → zc47
open Decidable renaming not_not → zc50
noncomputable section
namespace Go.Ma
open Go
theorem zq1394 : ∀ (ps : List Pf) (ks : List (List Ad)),zq1392 ps ks = 0 ↔ ∀ (i : Nat) (p : Pf),ps[i]? = some p → zq568 p (ks.getD i []) = 0 := fun ps ks => by
 refine ⟨zq1393,?_⟩
 induction ps generalizing ks with
 | nil => intro _; rfl
 | cons q r ih =>
  intro h
  have h0 := h 0 q rfl
  have h0' : zq568 q (ks.headD []) = 0 := by cases ks <;> exact h0
  rw [zq1392,if_neg (fun hh => hh h0')]
  refine ih _ fun i p hp => ?_
  have := h (i + 1) p hp
  cases ks <;> simpa using this
theorem zq1691 (ps : List Pf) (now : Int) : ∀ (m bf : List Ls),stF' ps now bf m = 0 ↔ (∀ x ∈ m,(zq1388 ps x.ad).isSome = true) ∧ (∀ x ∈ m,now ≤ x.upto) ∧ (∀ y ∈ bf,∀ x ∈ m,y.who ≠ x.who) ∧ m.Pairwise fun x y => x.who ≠ y.who
 | [],bf => by simp [stF']
 | x :: r,bf => by
  unfold stF'
  by_cases h1 : (zq1388 ps x.ad).isSome = true
  ·rw [if_neg (by cases hq : zq1388 ps x.ad <;> simp_all)]
   by_cases h2 : bf.any (whoP x.who) = true
   ·rw [if_pos h2]
    constructor
    ·intro h; exact absurd h (by decide)
    ·rintro ⟨_,_,h3,_⟩
     obtain ⟨y,hy,hq⟩ := List.any_eq_true.1 h2
     exact absurd (by simpa [whoP] using hq) (h3 y hy x (by simp))
   ·rw [if_neg h2]
    have h2' : ∀ y ∈ bf,y.who ≠ x.who := fun y hy he => h2 (List.any_eq_true.2 ⟨y,hy,by simp [whoP,he]⟩)
    by_cases hu : x.upto < now
    ·rw [if_pos hu]
     constructor
     ·intro h; exact absurd h (by decide)
     ·rintro ⟨_,h3,_⟩
      have := h3 x (by simp)
      omega
    rw [if_neg hu,zq1691 ps now r (bf ++ [x])]
    constructor
    ·rintro ⟨a1,a0,a2,a3⟩
     refine ⟨fun z hz => ?_,fun z hz => ?_,fun y hy z hz => ?_,zc45.2 ⟨fun z hz => a2 x (by simp) z hz,a3⟩⟩
     ·rcases zc28.1 hz with rfl | hz
      ·exact h1
      ·exact a1 z hz
     ·rcases zc28.1 hz with rfl | hz
      ·omega
      ·exact a0 z hz
     ·rcases zc28.1 hz with rfl | hz
      ·exact h2' y hy
      ·exact a2 y (by simp [hy]) z hz
    ·rintro ⟨a1,a0,a2,a3⟩
     obtain ⟨b1,b2⟩ := zc45.1 a3
     refine ⟨fun z hz => a1 z (by simp [hz]),fun z hz => a0 z (by simp [hz]),fun y hy z hz => ?_,b2⟩
     rcases zc36.1 hy with hy | hy
     ·exact a2 y hy z (by simp [hz])
     ·have : y = x := by simpa using hy
      subst this
      exact b1 z hz
  ·rw [if_pos (by simpa using h1)]
   constructor
   ·intro h; exact absurd h (by decide)
   ·rintro ⟨a1,_⟩; exact absurd (a1 x (by simp)) h1
theorem zq1389 {ps : List Pf} {a : Ad} : (zq1388 ps a).isSome = true ↔ ∃ p ∈ ps,holds p a = true := by
 unfold zq1388
 rw [zq817,List.any_eq_true]
structure StOk (ps : List Pf) (ks : List (List Ad)) (ls : List Ls) (now : Int) : Prop where
 pin : pfIn ps
 kin : kpIn ks
 lin : lsIn ls
 klen : ks.length = ps.length
 plen : ps.length ≤ 3
 pool : ∀ (i : Nat) (p : Pf),ps[i]? = some p → zq568 p (ks.getD i []) = 0
 pair : ps.Pairwise zq451
 time : betw now 0 9999 = true
 all : allC ls now = 0
 has : ∀ x ∈ ls,∃ p ∈ ps,holds p x.ad = true
 upto : ∀ x ∈ ls,now ≤ x.upto
 who : ls.Pairwise fun x y => x.who ≠ y.who
theorem zq1692 {ps : List Pf} (hp : ∀ p ∈ ps,p.In) {ks : List (List Ad)} (hk : kpIn ks) {ls : List Ls} (hl : lsIn ls) (hlen : ks.length = ps.length) {now : Int} (h : chkS ps ks ls now = 0) : StOk ps ks ls now := by
 unfold chkS at h
 split at h
 ·cases h
 rename_i h3
 split at h
 ·rename_i h4; exact absurd h h4
 rename_i h4
 have h4 := zc50.1 h4
 split at h
 ·cases h
 rename_i ha
 split at h
 ·cases h
 rename_i hb
 split at h
 ·rename_i hc; exact absurd h hc
 rename_i hc
 have hpf := zq1381 hp h4
 obtain ⟨s1,s2,_,s3⟩ := (zq1691 ps now ls []).1 h
 exact ⟨hpf,hk,hl,hlen,by omega,(zq1394 ps ks).1 h4,(zq424 hpf).1 (by simpa using ha),by simpa using hb,zc50.1 hc,fun x hx => zq1389.1 (s1 x hx),s2,s3⟩
abbrev StV := (List Pf × List (List Ad)) × List Ls × Int × Unit
abbrev DoV := StV × Ad × Int × Unit
def noSt : StV := ((([] : List Pf),([] : List (List Ad))),([] : List Ls),0,())
def noAd : Ad := ⟨false,0,0⟩
def errS (e : Int) : DoV := (noSt,noAd,e,())
def okS (ps : List Pf) (ks : List (List Ad)) (ls : List Ls) (now : Int) (a : Ad) : DoV := (((ps,ks),ls,now,()),a,0,())
def posP (p : Pf) (ps : List Pf) : Nat := (ps.takeWhile fun y => decide (ordP y p < 0)).length
def posA (a : Ad) (kp : List Ad) : Nat := (kp.takeWhile fun y => decide (ordA y a < 0)).length
def putAt {α : Type} (l : List α) (n : Nat) (x : α) : List α := l.take n ++ x :: l.drop n
def zq725 (ps : List Pf) (ks : List (List Ad)) (ls : List Ls) (now : Int) (p : Pf) : DoV :=
 if ps.any (fun q => meets q p) = true then errS 6 else if ps.length = 3 then errS 2 else okS (putAt ps (posP p ps) p) (putAt ks (posP p ps) []) ls now noAd
def zq721 (ps : List Pf) (ks : List (List Ad)) (ls : List Ls) (now : Int) (a : Ad) : DoV :=
 match zq1388 ps a with
 | none => errS 5
 | some i => if (ks.getD i []).any (fun x => decide (a = x)) = true then errS 6 else if (ks.getD i []).length = 6 then errS 2 else okS ps (ks.set i (putAt (ks.getD i []) (posA a (ks.getD i [])) a)) ls now noAd
def ownL (p : Pf) (ls : List Ls) : List Ls := ls.filter fun x => holds p x.ad
def othL (p : Pf) (ls : List Ls) : List Ls := ls.filter fun x => !holds p x.ad
def awayB (p : Pf) (ls : List Ls) (who : ByteArray) : Bool := match zq816 (whoP who) ls with | some i => (match ls[i]? with | some x => !holds p x.ad | none => false) | none => false
def zq887 (p : Pf) (kp : List Ad) (ls : List Ls) (who : ByteArray) (now ttl : Int) : List Ls × Ad × Bool × Unit := rawOf p kp (live (ownL p ls) now) who (now + ttl)
def zq720 (ps : List Pf) (ks : List (List Ad)) (ls : List Ls) (now : Int) (who : ByteArray) (k : Int) (ttl : Int) : DoV :=
 match ps[k.toNat]? with
 | none => errS 5
 | some p => if awayB p ls who = true then errS 6 else if (zq887 p (ks.getD k.toNat []) ls who now ttl).2.2.1 = false then errS 8
  else if (zq887 p (ks.getD k.toNat []) ls who now ttl).1.length + (othL p ls).length > 20 then errS 2
  else okS ps ks (sortL ((zq887 p (ks.getD k.toNat []) ls who now ttl).1 ++ othL p ls)) now (zq887 p (ks.getD k.toNat []) ls who now ttl).2.1
def zq719 (ps : List Pf) (ks : List (List Ad)) (ls : List Ls) (now : Int) (who : ByteArray) : DoV :=
 match zq816 (whoP who) ls with
 | none => errS 5
 | some i => (match ls[i]? with | some x => okS ps ks (ls.take i ++ ls.drop (i + 1)) now x.ad | none => errS 5)
def zq726 (ps : List Pf) (ks : List (List Ad)) (ls : List Ls) (now n : Int) : DoV := if n < now then errS 4 else okS ps ks (live ls n) n noAd
def doOf (ps : List Pf) (ks : List (List Ad)) (ls : List Ls) (now : Int) (o : Oq) : DoV :=
 if formO o ≠ 0 then errS (formO o)
 else if o.kind = 1 then zq725 ps ks ls now o.pf
 else if o.kind = 2 then zq721 ps ks ls now o.ad
 else if o.kind = 3 then zq720 ps ks ls now o.who o.of_ o.n
 else if o.kind = 4 then zq719 ps ks ls now o.who
 else zq726 ps ks ls now o.n
theorem zq857 {o : Oq} (h : formO o = 0) (hk : o.kind = 1) : chkP o.pf = 0 ∧ ((wid o.pf.ad.v6 : Nat) : Int) - o.pf.bits ≤ 4 := by
 unfold formO at h
 split at h
 ·cases h
 split at h
 ·cases h
 split at h
 ·rename_i h1; exact absurd h h1
 rename_i h1
 split at h
 ·rename_i h2; exact ⟨zc50.1 h1,h2⟩
 ·cases h
theorem zq855 {o : Oq} (h : formO o = 0) (hk : o.kind = 2) : chkA o.ad = 0 := by
 unfold formO at h
 split at h
 ·cases h
 split at h
 ·cases h
 rwa [if_neg (by omega)] at h
theorem zq856 {o : Oq} (h : formO o = 0) : 1 ≤ o.kind ∧ o.kind ≤ 5 := by
 unfold formO at h
 split at h
 ·cases h
 rename_i hk
 exact zq485.1 (by simpa using hk)
theorem zq859 {o : Oq} (h : formO o = 0) (hk : o.kind = 3 ∨ o.kind = 4) : whoOk o.who = true := by
 unfold formO at h
 split at h
 ·cases h
 split at h
 ·cases h
 rw [if_neg (by omega),if_neg (by omega)] at h
 split at h
 ·cases h
 rename_i h1
 have : o.kind < 5 := by omega
 cases hw : whoOk o.who
 ·exact absurd ⟨this,hw⟩ h1
 ·rfl
theorem zq854 {o : Oq} (h : formO o = 0) (hk : o.kind = 3) : betw o.of_ 0 2 = true ∧ betw o.n 1 500 = true := by
 unfold formO at h
 split at h
 ·cases h
 split at h
 ·cases h
 rw [if_neg (by omega),if_neg (by omega)] at h
 split at h
 ·cases h
 split at h
 ·cases h
 rename_i h2
 cases h1 : betw o.of_ 0 2
 ·exact absurd ⟨hk,.inl h1⟩ h2
 ·cases h3 : betw o.n 1 500
  ·exact absurd ⟨hk,.inr h3⟩ h2
  ·exact ⟨rfl,rfl⟩
theorem zq858 {o : Oq} (h : formO o = 0) (hk : o.kind = 5) : betw o.n 0 9999 = true := by
 unfold formO at h
 split at h
 ·cases h
 split at h
 ·cases h
 rw [if_neg (by omega),if_neg (by omega)] at h
 split at h
 ·cases h
 split at h
 ·cases h
 split at h
 ·cases h
 rename_i h2
 cases h1 : betw o.n 0 9999
 ·exact absurd ⟨hk,h1⟩ h2
 ·rfl
theorem zq1820 {α : Type} {q : α → Bool} : ∀ {l : List α},(l.Pairwise fun x y => q y = true → q x = true) → ∀ {i : Nat} {x : α},l[i]? = some x → (q x = true ↔ i < (l.takeWhile q).length)
 | [],_,i,x,h => by simp at h
 | y :: r,hp,i,x,h => by
  obtain ⟨h1,h2⟩ := zc45.1 hp
  rw [List.takeWhile_cons]
  cases hq : q y
  ·simp only [zc16,if_false,List.length_nil,Nat.not_lt_zero,iff_false,Bool.not_eq_true]
   match i with
   | 0 =>
    simp only [zc13,zc2] at h
    rw [← h]; exact hq
   | i + 1 =>
    rw [zc35] at h
    cases hx : q x
    ·rfl
    ·rw [h1 x (zc5 h) hx] at hq; cases hq
  ·simp only [if_true,zc21]
   match i with
   | 0 =>
    simp only [zc13,zc2] at h
    rw [← h,hq]; simp
   | i + 1 =>
    rw [zc35] at h
    rw [zq1820 h2 h]; omega
theorem tw_le {α : Type} (q : α → Bool) (l : List α) : (l.takeWhile q).length ≤ l.length := (List.takeWhile_sublist q).length_le
theorem zq1400 {ps : List Pf} (h : ps.Pairwise zq451) (p : Pf) {i : Nat} {x : Pf} (hx : ps[i]? = some x) : ordP x p < 0 ↔ i < posP p ps := by
 have := zq1820 (q := fun y => decide (ordP y p < 0)) (l := ps) (h.imp fun {a b} hab hb => by
  simp only [decide_eq_true_eq] at hb ⊢
  exact zq1345 hab.1 hb) hx
 simpa [posP] using this
theorem zq1401 (p : Pf) (ps : List Pf) : posP p ps ≤ ps.length := tw_le _ _
theorem zq1339 {a b c : Ad} (h1 : ordA a b < 0) (h2 : ordA b c < 0) : ordA a c < 0 := by
 have := (zq1338 a b).1.1 h1
 have := (zq1338 b c).1.1 h2
 exact (zq1338 a c).1.2 (by omega)
theorem zq1396 {kp : List Ad} (h : kp.Pairwise fun a b => ordA a b < 0) (p : Ad) {i : Nat} {x : Ad} (hx : kp[i]? = some x) : ordA x p < 0 ↔ i < posA p kp := by
 have := zq1820 (q := fun y => decide (ordA y p < 0)) (l := kp) (h.imp fun {a b} hab hb => by
  simp only [decide_eq_true_eq] at hb ⊢
  exact zq1339 hab hb) hx
 simpa [posA] using this
theorem zq1397 (p : Ad) (kp : List Ad) : posA p kp ≤ kp.length := tw_le _ _
theorem zq974 {p : Pf} : ∀ (kp : List Ad) (o : Option Ad),keptF p o kp = 0 ↔ (∀ a ∈ kp,chkA a = 0 ∧ holds p a = true) ∧ (kp.Pairwise fun a b => ordA a b < 0) ∧ ∀ b,o = some b → ∀ a ∈ kp,ordA b a < 0
 | [],o => by simp [keptF]
 | x :: r,o => by
  rw [keptF]
  by_cases h1 : chkA x = 0
  rotate_left
  ·rw [if_pos h1]
   exact ⟨fun h => absurd h h1,fun h => absurd (h.1 x (by simp)).1 h1⟩
  rw [if_neg (fun h => h h1)]
  cases h2 : holds p x
  ·rw [if_pos rfl]
   refine ⟨fun h => (by cases h),fun h => ?_⟩
   rw [(h.1 x (by simp)).2] at h2; cases h2
  rw [if_neg (by simp)]
  by_cases h3 : backB o x = true
  ·rw [if_pos h3]
   refine ⟨fun h => (by cases h),fun h => ?_⟩
   cases o with
   | none => cases h3
   | some b =>
    have := h.2.2 b rfl x (by simp)
    simp only [backB,decide_eq_true_eq] at h3
    omega
  ·rw [if_neg h3,zq974 r (some x)]
   have h4 : ∀ b,o = some b → ordA b x < 0 := fun b hb => by
    subst hb
    simp only [backB,decide_eq_true_eq] at h3
    omega
   constructor
   ·rintro ⟨g1,g2,g3⟩
    refine ⟨fun a ha => ?_,zc45.2 ⟨fun a ha => g3 x rfl a ha,g2⟩,fun b hb a ha => ?_⟩
    ·rcases zc28.1 ha with rfl | ha
     ·exact ⟨h1,h2⟩
     ·exact g1 a ha
    ·rcases zc28.1 ha with rfl | ha
     ·exact h4 b hb
     ·exact zq1339 (h4 b hb) (g3 x rfl a ha)
   ·rintro ⟨g1,g2,g3⟩
    obtain ⟨k1,k2⟩ := zc45.1 g2
    exact ⟨fun a ha => g1 a (List.mem_cons_of_mem _ ha),k2,fun b hb a ha => by injection hb with hb; subst hb; exact k1 a ha⟩
theorem zq569 {p : Pf} {kp : List Ad} : zq568 p kp = 0 ↔ chkP p = 0 ∧ ((wid p.ad.v6 : Nat) : Int) - p.bits ≤ 4 ∧ kp.length ≤ 6 ∧ (∀ a ∈ kp,chkA a = 0 ∧ holds p a = true) ∧ kp.Pairwise fun a b => ordA a b < 0 := by
 unfold zq568
 by_cases h1 : chkP p = 0
 rotate_left
 ·rw [if_pos h1]
  exact ⟨fun h => absurd h h1,fun h => absurd h.1 h1⟩
 rw [if_neg (fun h => h h1)]
 by_cases h2 : ((wid p.ad.v6 : Nat) : Int) - p.bits ≤ 4 ∧ kp.length ≤ 6
 ·rw [if_neg (by omega),zq974]
  constructor
  ·rintro ⟨g1,g2,_⟩; exact ⟨h1,h2.1,h2.2,g1,g2⟩
  ·rintro ⟨_,_,_,g1,g2⟩; exact ⟨g1,g2,fun b hb => by cases hb⟩
 ·rw [if_pos (by omega)]
  exact ⟨fun h => (by cases h),fun h => absurd ⟨h.2.1,h.2.2.1⟩ h2⟩
end Go.Ma
namespace Go.Ma
open Go
theorem zq580 {l : List Ad} (h : l.length ≤ 1048576) : zq1643 l = some (l,()) := by
 unfold zq1643
 rw [zq1560 (zq1574 (by simp [lenL]) (zq1107 l) (by unfold lenL; simp; omega)),zc42]
 cases l with
 | nil => exact zq513 _
 | cons a r => rfl
theorem StOk.kept {ps : List Pf} {ks : List (List Ad)} {ls : List Ls} {now : Int} (h : StOk ps ks ls now) {i : Nat} {p : Pf} (hp : ps[i]? = some p) : (ks.getD i []).length ≤ 6 := (zq569.1 (h.pool i p hp)).2.2.1
theorem StOk.llen {ps : List Pf} {ks : List (List Ad)} {ls : List Ls} {now : Int} (h : StOk ps ks ls now) : ls.length ≤ 20 := (zq438 h.all).1
theorem StOk.lchk {ps : List Pf} {ks : List (List Ad)} {ls : List Ls} {now : Int} (h : StOk ps ks ls now) : ∀ x ∈ ls,chkLs x = 0 := (zq438 h.all).2.1
theorem zq1708 {ps : List Pf} {ks : List (List Ad)} {ls : List Ls} {now : Int} (h : StOk ps ks ls now) : zq1710 (ps,ks) ls now = some (((ps,ks),ls,now,()),()) := by
 have hpl := h.plen
 have hkl := h.klen
 have hll := h.llen
 unfold zq1710
 rw [zq582 (by omega),zq487,zq730]
 simp only
 have := zq1179 (step := zq1702) (fun i => (((),(),(),(lenL ps,()),((i : Int),()),()),(ks,ps,ls,((0 : Int),()),(now,()),([] : List Pf),([] : List Ls),ps.take i,ls,([] : List (List Ad)),ks.take i,()))) ps.length
  (fun _ => some (((),(),()),(ks,ps,ls,((0 : Int),()),(now,()),([] : List Pf),([] : List Ls),ps,ls,([] : List (List Ad)),ks,()))) (fun rec i hi hr => ?_) (fun rec => ?_) FUEL 0 (Nat.zero_le _) (zq865 (by omega))
 ·rw [show ((0 : Nat) : Int) = 0 from rfl,List.take_zero,List.take_zero] at this
  rw [this,zq487]
 ·obtain ⟨p,hp⟩ : ∃ e,ps[i]? = some e := ⟨_,zc0 hi⟩
  have hk6 := h.kept hp
  have e1 : ps.take (i + 1) = ps.take i ++ [p] := by rw [zc26 hi,(zc1.1 hp).2]
  have hik : i < ks.length := by omega
  have e2 : ks.take (i + 1) = ks.take i ++ [ks.getD i []] := by
   rw [zc26 hik,zc3,zc0 hik]
   rfl
  have e3 : padL (ps.take i).length (ks.take i) = ks.take i := zq1376 (by simp; omega)
  simp only [zq1702]
  rw [decide_eq_true (show (i : Int) < lenL ps by unfold lenL; omega),zq517,zq1560 (zq910 (by omega) (by unfold lenL; omega)),zq871 hp,zq487,zq869,zq580 (by omega)]
  simp only [zq487,zq730,zq513,e3]
  rw [zq1560 (zq1574 (zq1107 _) (zq1107 _) (by unfold lenL; simp; omega)),show ((i : Int) + 1) = ((i + 1 : Nat) : Int) by omega,zq1560 (zq904 (by omega) (by omega)),← e1,← e2,hr]
 ·simp only [zq1702]
  rw [decide_eq_false (show ¬ (ps.length : Int) < lenL ps by unfold lenL; omega),zq515,List.take_length,← hkl,List.take_length]
theorem zq1763 (ps : List Pf) (ks : List (List Ad)) {ls : List Ls} (hlen : ls.length ≤ 1048576) (now : Int) (who : ByteArray) : zq367 (ps,ks) ls now who = some (idxI (zq816 (whoP who) ls),()) := by
 unfold zq367
 have := zq907 (step := zq361) ls (whoP who) (fun i => (((),(),(lenL ls,()),((i : Int),()),()),((now,()),ks,ps,ls,(who,()),())))
  (fun o => match o with | some i => Sum.inl ((((i : Int),()),()),((now,()),ks,ps,ls,(who,()),())) | none => Sum.inr ((),((now,()),ks,ps,ls,(who,()),()))) (by omega) (fun rec i x hx hi => ?_) (fun rec => ?_)
 ·rw [show ((0 : Nat) : Int) = 0 from rfl] at this
  simp only
  rw [this,zq487]
  cases zq816 (whoP who) ls <;> rfl
 ·simp only [zq361]
  rw [decide_eq_true (show (i : Int) < lenL ls by unfold lenL; omega),zq517,zq1560 (zq910 (by omega) (by unfold lenL; omega)),zq871 hx,zq487,zq356,zq487,zq1795]
  unfold whoP
  by_cases hc : x.who = who
  ·rw [decide_eq_true hc,zq517,if_pos rfl]
  ·rw [decide_eq_false hc,zq515,if_neg (by simp),show ((i : Int) + 1) = ((i + 1 : Nat) : Int) by omega,zq1560 (zq904 (by omega) (by omega))]
 ·simp only [zq361]
  rw [decide_eq_false (show ¬ (ls.length : Int) < lenL ls by unfold lenL; omega),zq515]
abbrev DPl := List (List Ad) × List Pf × List Ls × (Int × Unit) × (Oq × Unit) × (Int × Unit) × List (List Ad) × List Pf × List Ls × (Ad × Unit) × List (List Ad) × List Pf × List Ls × (Int × Unit) × (Oq × Unit) × (Ad × Unit) × (Pf × Unit) × Unit
abbrev DPl2 := List (List Ad) × List Pf × List Ls × (Int × Unit) × (Oq × Unit) × (Int × Unit) × List (List Ad) × List Pf × List Ls × (Ad × Unit) × List (List Ad) × List Pf × List Ls × (Int × Unit) × (Oq × Unit) × (Ad × Unit) × (Pf × Unit) × (Pf × Unit) × Unit
theorem zq1390 {ps : List Pf} (hp : pfIn ps) (hlen : ps.length ≤ 1048576) (ks : List (List Ad)) (ls : List Ls) (now : Int) (o : Oq) (h1 : o.pf.In) (h2 : chkP o.pf = 0) :
  loopN zq1742 FUEL (((),(),(lenL ps,()),(0,()),()),((ks,ps,ls,(now,()),(o,()),((0 : Int),()),([] : List (List Ad)),([] : List Pf),([] : List Ls),((⟨false,0,0⟩ : Ad),()),ks,ps,ls,(now,()),(o,()),((⟨false,0,0⟩ : Ad),()),(o.pf,()),()) : DPl)) =
   some (match zq816 (fun q => meets q o.pf) ps with
    | some i => Sum.inl ((((i : Int),()),()),((ks,ps,ls,(now,()),(o,()),((0 : Int),()),([] : List (List Ad)),([] : List Pf),([] : List Ls),((⟨false,0,0⟩ : Ad),()),ks,ps,ls,(now,()),(o,()),((⟨false,0,0⟩ : Ad),()),(o.pf,()),()) : DPl))
    | none => Sum.inr ((),((ks,ps,ls,(now,()),(o,()),((0 : Int),()),([] : List (List Ad)),([] : List Pf),([] : List Ls),((⟨false,0,0⟩ : Ad),()),ks,ps,ls,(now,()),(o,()),((⟨false,0,0⟩ : Ad),()),(o.pf,()),()) : DPl))) := by
 have := zq907 (step := zq1742) ps (fun q => meets q o.pf) (fun i => (((),(),(lenL ps,()),((i : Int),()),()),((ks,ps,ls,(now,()),(o,()),((0 : Int),()),([] : List (List Ad)),([] : List Pf),([] : List Ls),((⟨false,0,0⟩ : Ad),()),ks,ps,ls,(now,()),(o,()),((⟨false,0,0⟩ : Ad),()),(o.pf,()),()) : DPl)))
  (fun r => match r with | some i => Sum.inl ((((i : Int),()),()),((ks,ps,ls,(now,()),(o,()),((0 : Int),()),([] : List (List Ad)),([] : List Pf),([] : List Ls),((⟨false,0,0⟩ : Ad),()),ks,ps,ls,(now,()),(o,()),((⟨false,0,0⟩ : Ad),()),(o.pf,()),()) : DPl)) | none => Sum.inr ((),((ks,ps,ls,(now,()),(o,()),((0 : Int),()),([] : List (List Ad)),([] : List Pf),([] : List Ls),((⟨false,0,0⟩ : Ad),()),ks,ps,ls,(now,()),(o,()),((⟨false,0,0⟩ : Ad),()),(o.pf,()),()) : DPl))) (by omega) (fun rec i x hx hi => ?_) (fun rec => ?_)
 ·exact this
 ·obtain ⟨g1,g2⟩ := hp x (zc5 hx)
  simp only [zq1742]
  rw [decide_eq_true (show (i : Int) < lenL ps by unfold lenL; omega),zq517,zq1560 (zq910 (by omega) (by unfold lenL; omega)),zq871 hx,zq487,zq372,zq1436 g1 h1 g2 h2,zq487,zq487]
  simp only [show (over x o.pf || over o.pf x) = meets x o.pf from rfl]
  cases meets x o.pf
  ·rw [show ((i : Int) + 1) = ((i + 1 : Nat) : Int) by omega,zq515,zq1560 (zq904 (by omega) (by omega)),if_neg (by simp)]
  ·rw [zq517,if_pos rfl]
 ·simp only [zq1742]
  rw [decide_eq_false (show ¬ (ps.length : Int) < lenL ps by unfold lenL; omega),zq515]
theorem zq1391 {ps : List Pf} (hp : pfIn ps) (hpw : ps.Pairwise zq451) (hlen : ps.length ≤ 1048576) (ks : List (List Ad)) (ls : List Ls) (now : Int) (o : Oq) (h2 : chkP o.pf = 0) :
  loopN zq1732 FUEL (((),(),(),(lenL ps,()),(0,()),(lenL ps,()),()),((ks,ps,ls,(now,()),(o,()),((0 : Int),()),([] : List (List Ad)),([] : List Pf),([] : List Ls),((⟨false,0,0⟩ : Ad),()),ks,ps,ls,(now,()),(o,()),((⟨false,0,0⟩ : Ad),()),(o.pf,()),(o.pf,()),()) : DPl2)) =
   some (((),(),(),(lenL ps,()),(((posP o.pf ps : Nat) : Int),()),()),((ks,ps,ls,(now,()),(o,()),((0 : Int),()),([] : List (List Ad)),([] : List Pf),([] : List Ls),((⟨false,0,0⟩ : Ad),()),ks,ps,ls,(now,()),(o,()),((⟨false,0,0⟩ : Ad),()),(o.pf,()),(o.pf,()),()) : DPl2)) := by
 refine zq486 (step := zq1732) ps.length (posP o.pf ps) (zq1401 _ _) (by omega)
  (fun i j => (((),(),(),(lenL ps,()),((i : Int),()),((j : Int),()),()),((ks,ps,ls,(now,()),(o,()),((0 : Int),()),([] : List (List Ad)),([] : List Pf),([] : List Ls),((⟨false,0,0⟩ : Ad),()),ks,ps,ls,(now,()),(o,()),((⟨false,0,0⟩ : Ad),()),(o.pf,()),(o.pf,()),()) : DPl2))) _ (fun rec i j hij h3 h4 h5 => ?_) (fun rec => ?_)
 ·obtain ⟨e,he⟩ : ∃ e,ps[(i + j) / 2]? = some e := ⟨_,zc0 (by omega)⟩
  obtain ⟨g1,g2⟩ := hp e (zc5 he)
  have hpos := zq1400 hpw o.pf he
  simp only [zq1732]
  rw [decide_eq_true (show (i : Int) < (j : Int) by omega),zq517,zq1560 (zq904 (by omega) (by omega))]
  simp only [zq893 i j (by omega)]
  rw [zq1560 (zq910 (by omega) (by unfold lenL; omega)),zq871 he,zq487,zq377,zq1442 g2 h2,zq487,zq487]
  by_cases ho : ordP e o.pf < 0
  ·rw [decide_eq_true ho,zq517,if_pos (hpos.1 ho),show (((i + j) / 2 : Nat) : Int) + 1 = (((i + j) / 2 + 1 : Nat) : Int) by omega,zq1560 (zq904 (by omega) (by omega))]
  ·rw [decide_eq_false ho,zq515,if_neg (fun h => ho (hpos.2 h))]
 ·simp only [zq1732]
  rw [decide_eq_false (show ¬ ((posP o.pf ps : Nat) : Int) < ((posP o.pf ps : Nat) : Int) by omega),zq515]
theorem zq448 {α : Type} {q : α → Bool} {l : List α} : l.any q = (zq816 q l).isSome := (zq817 l).symm
theorem zq1513 {ps : List Pf} {ks : List (List Ad)} {ls : List Ls} {now : Int} (h : StOk ps ks ls now) {o : Oq} (ho : o.In) (hf : formO o = 0) (hk : o.kind = 1) : zq1756 (ps,ks) ls now o = some (zq725 ps ks ls now o.pf) := by
 obtain ⟨c1,c2⟩ := zq857 hf hk
 have hpl := h.plen
 have hkl := h.klen
 have hpo := zq1401 o.pf ps
 unfold zq1756 zq725
 rw [zq1699 ho,zq487,hf,decide_eq_true rfl,zc10,zq515,zq1708 h,zq487,decide_eq_true hk,zq517]
 simp only
 rw [zq1390 h.pin (by omega) ks ls now o ho.2.1 c1,zq487,zq448]
 cases hm : zq816 (fun q => meets q o.pf) ps with
 | some i =>
  simp only [sumC,Option.isSome,if_true]
  rw [decide_eq_true (show (i : Int) ≥ 0 by omega),zq517]
  rfl
 | none =>
  simp only [sumC,Option.isSome,zc16,if_false]
  by_cases h3 : ps.length = 3
  ·rw [decide_eq_true (show lenL ps = 3 by unfold lenL; omega),zq517,if_pos h3]; rfl
  ·rw [decide_eq_false (show ¬ lenL ps = 3 by unfold lenL; omega),zq515,if_neg h3,zq1391 h.pin h.pair (by omega) ks ls now o c1,zq487]
   simp only
   have r1 : (decide ((0 : Int) ≤ ((posP o.pf ps : Nat) : Int)) && decide (((posP o.pf ps : Nat) : Int) ≤ lenL ps) && room (lenL ps) 1) = true := by
    rw [decide_eq_true (show (0 : Int) ≤ ((posP o.pf ps : Nat) : Int) by omega),decide_eq_true (show ((posP o.pf ps : Nat) : Int) ≤ lenL ps by unfold lenL; omega),zq1574 (zq1107 _) (by omega) (by unfold lenL; omega)]
    rfl
   have r2 : ∃ b,(br (decide (((posP o.pf ps : Nat) : Int) < lenL ps)) (req (zq908 ((posP o.pf ps : Nat) : Int) (lenL ps)) ((geti ps ((posP o.pf ps : Nat) : Int)).bind fun p9 => (zq377 p9 (getL ks ((posP o.pf ps : Nat) : Int)) o.pf).bind fun y10 => some (((posP o.pf ps : Nat) : Int),decide (y10.1 = 0),()))) (some (((posP o.pf ps : Nat) : Int),false,()))) = some (((posP o.pf ps : Nat) : Int),b,()) := by
    by_cases hlt : posP o.pf ps < ps.length
    ·obtain ⟨e,he⟩ : ∃ e,ps[posP o.pf ps]? = some e := ⟨_,zc0 hlt⟩
     obtain ⟨g1,g2⟩ := h.pin e (zc5 he)
     exact ⟨_,by rw [decide_eq_true (show ((posP o.pf ps : Nat) : Int) < lenL ps by unfold lenL; omega),zq517,zq1560 (zq910 (by omega) (by unfold lenL; omega)),zq871 he,zq487,zq377,zq1442 g2 c1,zq487,zq487]⟩
    ·exact ⟨_,by rw [decide_eq_false (show ¬ ((posP o.pf ps : Nat) : Int) < lenL ps by unfold lenL; omega),zq515]⟩
   obtain ⟨b,hb⟩ := r2
   rw [hb,zq487]
   simp only [r1,zq1562,zq730,zq513,zq1376 hkl]
   simp [okS,noAd,insL,putAt]
abbrev DKp := List (List Ad) × List Pf × List Ls × (Int × Unit) × (Oq × Unit) × (Int × Unit) × List (List Ad) × List Pf × List Ls × (Ad × Unit) × List (List Ad) × List Pf × List Ls × (Int × Unit) × (Oq × Unit) × (Ad × Unit) × (Ad × Unit) × (Ad × Unit) × Unit
theorem zq969 {kp : List Ad} (hpw : kp.Pairwise fun a b => ordA a b < 0) (hlen : kp.length ≤ 1048576) (ps : List Pf) (ks : List (List Ad)) (ls : List Ls) (now : Int) (o : Oq) {i : Nat} (hkp : ks.getD i [] = kp) :
  loopN zq1723 FUEL ((((i : Int),()),(),(),(lenL kp,()),(0,()),(lenL kp,()),()),((ks,ps,ls,(now,()),(o,()),((0 : Int),()),([] : List (List Ad)),([] : List Pf),([] : List Ls),((⟨false,0,0⟩ : Ad),()),ks,ps,ls,(now,()),(o,()),((⟨false,0,0⟩ : Ad),()),(o.ad,()),(o.ad,()),()) : DKp)) =
   some ((((i : Int),()),(),(),(lenL kp,()),(((posA o.ad kp : Nat) : Int),()),()),((ks,ps,ls,(now,()),(o,()),((0 : Int),()),([] : List (List Ad)),([] : List Pf),([] : List Ls),((⟨false,0,0⟩ : Ad),()),ks,ps,ls,(now,()),(o,()),((⟨false,0,0⟩ : Ad),()),(o.ad,()),(o.ad,()),()) : DKp)) := by
 refine zq486 (step := zq1723) kp.length (posA o.ad kp) (zq1397 _ _) (by omega)
  (fun a b => ((((i : Int),()),(),(),(lenL kp,()),((a : Int),()),((b : Int),()),()),((ks,ps,ls,(now,()),(o,()),((0 : Int),()),([] : List (List Ad)),([] : List Pf),([] : List Ls),((⟨false,0,0⟩ : Ad),()),ks,ps,ls,(now,()),(o,()),((⟨false,0,0⟩ : Ad),()),(o.ad,()),(o.ad,()),()) : DKp))) _ (fun rec a b hij h3 h4 h5 => ?_) (fun rec => ?_)
 ·obtain ⟨e,he⟩ : ∃ e,kp[(a + b) / 2]? = some e := ⟨_,zc0 (by omega)⟩
  have hpos := zq1396 hpw o.ad he
  simp only [zq1723]
  rw [decide_eq_true (show (a : Int) < (b : Int) by omega),zq517,zq1560 (zq904 (by omega) (by omega))]
  simp only [zq893 a b (by omega),zq869,hkp]
  rw [zq1560 (zq910 (by omega) (by unfold lenL; omega)),zq871 he,zq487,zq418,zq487]
  by_cases ho : ordA e o.ad < 0
  ·rw [decide_eq_true ho,zq517,if_pos (hpos.1 ho),show (((a + b) / 2 : Nat) : Int) + 1 = (((a + b) / 2 + 1 : Nat) : Int) by omega,zq1560 (zq904 (by omega) (by omega))]
  ·rw [decide_eq_false ho,zq515,if_neg (fun h => ho (hpos.2 h))]
 ·simp only [zq1723]
  rw [decide_eq_false (show ¬ ((posA o.ad kp : Nat) : Int) < ((posA o.ad kp : Nat) : Int) by omega),zq515]
theorem zq1337 {a b : Ad} : ordA a b = 0 ↔ a = b := by
 constructor
 ·intro h
  obtain ⟨h1,h2,h3⟩ := (zq1338 a b).2.1 h
  have h1 := zq965 h1
  obtain ⟨av,ah,al⟩ := a
  obtain ⟨bv,bh,bl⟩ := b
  simp only at h1 h2 h3
  rw [h1,h2,h3]
 ·rintro rfl
  exact (zq1338 a a).2.2 ⟨rfl,rfl,rfl⟩
theorem zq1395 {kp : List Ad} (hpw : kp.Pairwise fun a b => ordA a b < 0) (a : Ad) : (match kp[posA a kp]? with | some e => decide (ordA e a = 0) | none => false) = kp.any (fun x => decide (a = x)) := by
 rw [Bool.eq_iff_iff,List.any_eq_true]
 constructor
 ·intro h
  split at h
  ·rename_i e he
   exact ⟨e,zc5 he,by simp [zq1337.1 (of_decide_eq_true h)]⟩
  ·cases h
 ·rintro ⟨x,hx,hax⟩
  have hax := of_decide_eq_true hax
  subst hax
  obtain ⟨i,hi⟩ := zc30.1 hx
  have h1 := zq1396 hpw a hi
  have h0 : ¬ ordA a a < 0 := by rw [zq1337.2 rfl]; omega
  have hle : posA a kp ≤ i := by
   rcases Nat.lt_or_ge i (posA a kp) with h | h
   ·exact absurd (h1.2 h) h0
   ·exact h
  have hil := (zc1.1 hi).1
  have hpos : posA a kp = i := by
   rcases Nat.lt_or_ge (posA a kp) i with h | h
   ·obtain ⟨e,he⟩ : ∃ e,kp[posA a kp]? = some e := ⟨_,zc0 (by omega)⟩
    have h2 := zq1396 hpw a he
    have h3 : ordA e a < 0 := by
     rw [List.pairwise_iff_getElem] at hpw
     have := hpw _ i (by omega) hil h
     rwa [(zc1.1 he).2,(zc1.1 hi).2] at this
    have := h2.1 h3
    omega
   ·omega
  rw [hpos,hi]
  exact decide_eq_true (zq1337.2 rfl)
theorem zq1614 {α : Type} {l : List α} {i : Nat} {x : α} (h : l[i]? = some x) : l.set i x = l := by
 obtain ⟨h1,h2⟩ := zc1.1 h
 rw [← h2]
 exact List.set_getElem_self h1
theorem zq1512 {ps : List Pf} {ks : List (List Ad)} {ls : List Ls} {now : Int} (h : StOk ps ks ls now) {o : Oq} (ho : o.In) (hf : formO o = 0) (hk : o.kind = 2) : zq1756 (ps,ks) ls now o = some (zq721 ps ks ls now o.ad) := by
 have hpl := h.plen
 have hkl := h.klen
 unfold zq1756 zq721
 rw [zq1699 ho,zq487,hf,decide_eq_true rfl,zc10,zq515,zq1708 h,zq487,decide_eq_false (show ¬ o.kind = 1 by omega),zq515,decide_eq_true hk,zq517]
 simp only
 rw [zq1772 h.pin (by omega) ks ls now ho.2.2.1,zq487]
 simp only [zq905]
 cases hx : zq1388 ps o.ad with
 | none => rfl
 | some i =>
  have hil := zq819 hx
  obtain ⟨p,hp⟩ : ∃ e,ps[i]? = some e := ⟨_,zc0 hil⟩
  obtain ⟨k1,k2,k3,k4,k5⟩ := zq569.1 (h.pool i p hp)
  have hik : i < ks.length := by omega
  simp only [Option.isNone,zq515,idxI,zq869]
  have r1 : zq908 (i : Int) (lenL ps) = true := zq910 (by omega) (by unfold lenL; omega)
  have hb := zq969 k5 (by omega) ps ks ls now o (i := i) rfl
  simp only [r1,zq1562,zq871 hp,zq487]
  rw [hb,zq487]
  simp only [zq869]
  generalize hkp : ks.getD i [] = kp at *
  have hpo := zq1397 o.ad kp
  have r2 : (br (decide (((posA o.ad kp : Nat) : Int) < lenL kp)) (req (zq908 ((posA o.ad kp : Nat) : Int) (lenL kp)) ((geti kp ((posA o.ad kp : Nat) : Int)).bind fun p6 => (zq420 p6 o.ad).bind fun y7 => some (((posA o.ad kp : Nat) : Int),decide (y7.1 = 0),()))) (some (((posA o.ad kp : Nat) : Int),false,()))) = some (((posA o.ad kp : Nat) : Int),kp.any (fun x => decide (o.ad = x)),()) := by
   rw [← zq1395 k5]
   by_cases hlt : posA o.ad kp < kp.length
   ·obtain ⟨e,he⟩ : ∃ e,kp[posA o.ad kp]? = some e := ⟨_,zc0 hlt⟩
    rw [decide_eq_true (show ((posA o.ad kp : Nat) : Int) < lenL kp by unfold lenL; omega),zq517,zq1560 (zq910 (by omega) (by unfold lenL; omega)),zq871 he,zq487,zq418,zq487,he]
   ·rw [decide_eq_false (show ¬ ((posA o.ad kp : Nat) : Int) < lenL kp by unfold lenL; omega),zq515,zc22 (by omega)]
  rw [r2,zq487]
  simp only
  cases hany : kp.any (fun x => decide (o.ad = x))
  rotate_left
  ·rfl
  simp only [zq515,zc16,if_false]
  by_cases h6 : kp.length = 6
  ·rw [decide_eq_true (show lenL kp = 6 by unfold lenL; omega),zq517,if_pos h6]; rfl
  rw [decide_eq_false (show ¬ lenL kp = 6 by unfold lenL; omega),zq515,if_neg h6]
  have r3 : (decide ((0 : Int) ≤ ((posA o.ad kp : Nat) : Int)) && decide (((posA o.ad kp : Nat) : Int) ≤ lenL kp) && room (lenL kp) 1) = true := by
   rw [decide_eq_true (show (0 : Int) ≤ ((posA o.ad kp : Nat) : Int) by omega),decide_eq_true (show ((posA o.ad kp : Nat) : Int) ≤ lenL kp by unfold lenL; omega),zq1574 (zq1107 _) (by omega) (by unfold lenL; omega)]
   rfl
  simp only [Int.natCast_nonneg,decide_true,Bool.true_and] at r3 ⊢
  simp only [r3,zq1562]
  have e1 : (ks.set i []).length = ps.length := by simp [hkl]
  simp only [seti,outL,zc41,zq1376 e1,outL,zc41,zq1614 hp,List.set_set,insL,okS,noAd,putAt]
theorem zq1368 {ps : List Pf} {ks : List (List Ad)} {ls : List Ls} {now : Int} (h : StOk ps ks ls now) (p : Pf) : Good p (ownL p ls) := by
 obtain ⟨_,a2,a3,_⟩ := zq438 h.all
 exact ⟨fun x hx => h.lin x (List.mem_filter.1 hx).1,fun x hx => a2 x (List.mem_filter.1 hx).1,fun x hx => (List.mem_filter.1 hx).2,((zq464 h.lin).1 a3).filter _,h.who.filter _⟩
theorem zq1370 {ps : List Pf} {ks : List (List Ad)} {ls : List Ls} {now : Int} (h : StOk ps ks ls now) {i : Nat} {p : Pf} (hp : ps[i]? = some p) : chkOf p (ks.getD i []) (ownL p ls) now = 0 :=
 (zq1368 h p).ok (h.pin p (zc5 hp)).1 (h.pool i p hp) h.time
section
variable {A R α : Type}
theorem zq847 {step : (A → Option R) → A → Option R} (b : List α) (q : α → Bool) (mk : Nat → List α → List α → A) (out : List α → List α → R) (hlen : b.length < 9223372036854775808)
  (h : ∀ (rec : A → Option R) (i : Nat) (x : α) (acc acc2 : List α),b[i]? = some x → i < b.length → acc.length ≤ i → acc2.length ≤ i → step rec (mk i acc acc2) = rec (mk (i + 1) (if q x then acc ++ [x] else acc) (if q x then acc2 else acc2 ++ [x])))
  (hend : ∀ (rec : A → Option R) (acc acc2 : List α),step rec (mk b.length acc acc2) = some (out acc acc2)) : loopN step FUEL (mk 0 [] []) = some (out (b.filter q) (b.filter fun x => !q x)) := by
 have := zq1179 (step := step) (fun i => mk i ((b.take i).filter q) ((b.take i).filter fun x => !q x)) b.length (fun _ => some (out (b.filter q) (b.filter fun x => !q x))) (fun rec i hi hr => ?_) (fun rec => ?_) FUEL 0 (Nat.zero_le _) (zq865 (by omega))
 ·simpa using this
 ·obtain ⟨e,he⟩ : ∃ e,b[i]? = some e := ⟨_,zc0 hi⟩
  have hle : ∀ q : α → Bool,((b.take i).filter q).length ≤ i := fun q => Nat.le_trans (List.length_filter_le _ _) (by simp; omega)
  rw [h rec i e _ _ he hi (hle q) (hle _)]
  have ht : b.take (i + 1) = b.take i ++ [e] := by
   rw [zc26 hi,(zc1.1 he).2]
  rw [ht] at hr
  rw [← hr,List.filter_append,List.filter_append]
  cases hq : q e <;> simp [List.filter,hq]
 ·rw [hend,List.take_length]
end
abbrev DGr := List (List Ad) × List Pf × List Ls × (Int × Unit) × (Oq × Unit) × (Int × Unit) × List (List Ad) × List Pf × List Ls × (Ad × Unit) × List (List Ad) × List Pf × List Ls × (Int × Unit) × (Oq × Unit) × (Ad × Unit) × (Ad × Unit) × (Bool × Int × Int × Int × Int × Unit) × List Ls × List Ls × Unit
theorem zq890 (p : Pf) (cp : chkP p = 0) (ps : List Pf) (ks : List (List Ad)) {ls : List Ls} (hl : lsIn ls) (h20 : ls.length ≤ 20) (now : Int) (o : Oq) :
  loopN zq1714 FUEL (((),(o.who,()),(o.n,()),(),(),(),(),(),(lenL ls,()),(0,()),()),((ks,ps,ls,(now,()),(o,()),((0 : Int),()),([] : List (List Ad)),([] : List Pf),([] : List Ls),((⟨false,0,0⟩ : Ad),()),ks,ps,ls,(now,()),(o,()),((⟨false,0,0⟩ : Ad),()),((⟨false,0,0⟩ : Ad),()),(p.ad.v6,p.ad.hi,p.ad.lo,p.bits,o.of_,()),([] : List Ls),([] : List Ls),()) : DGr)) =
   some (((),(o.who,()),(o.n,()),(),(),(),(),()),((ks,ps,ls,(now,()),(o,()),((0 : Int),()),([] : List (List Ad)),([] : List Pf),([] : List Ls),((⟨false,0,0⟩ : Ad),()),ks,ps,ls,(now,()),(o,()),((⟨false,0,0⟩ : Ad),()),((⟨false,0,0⟩ : Ad),()),(p.ad.v6,p.ad.hi,p.ad.lo,p.bits,o.of_,()),ownL p ls,othL p ls,()) : DGr)) := by
 obtain ⟨b1,b2⟩ := zq566 cp
 refine zq847 (step := zq1714) ls (fun x => holds p x.ad) (fun i a b => (((),(o.who,()),(o.n,()),(),(),(),(),(),(lenL ls,()),((i : Int),()),()),((ks,ps,ls,(now,()),(o,()),((0 : Int),()),([] : List (List Ad)),([] : List Pf),([] : List Ls),((⟨false,0,0⟩ : Ad),()),ks,ps,ls,(now,()),(o,()),((⟨false,0,0⟩ : Ad),()),((⟨false,0,0⟩ : Ad),()),(p.ad.v6,p.ad.hi,p.ad.lo,p.bits,o.of_,()),a,b,()) : DGr)))
  (fun a b => (((),(o.who,()),(o.n,()),(),(),(),(),()),((ks,ps,ls,(now,()),(o,()),((0 : Int),()),([] : List (List Ad)),([] : List Pf),([] : List Ls),((⟨false,0,0⟩ : Ad),()),ks,ps,ls,(now,()),(o,()),((⟨false,0,0⟩ : Ad),()),((⟨false,0,0⟩ : Ad),()),(p.ad.v6,p.ad.hi,p.ad.lo,p.bits,o.of_,()),a,b,()) : DGr))) (by omega) (fun rec i x a b hx hi ha hb => ?_) (fun rec a b => ?_)
 ·simp only [zq1714]
  rw [decide_eq_true (show (i : Int) < lenL ls by unfold lenL; omega),zq517,zq1560 (zq910 (by omega) (by unfold lenL; omega)),zq871 hx,zq487,zq1424 (p := p) b1 b2 (hl x (zc5 hx)).1,zq487]
  rw [show ((i : Int) + 1) = ((i + 1 : Nat) : Int) by omega]
  cases holds p x.ad
  ·rw [zq515,zq1560 (zq1574 (zq1107 _) (zq1107 _) (by unfold lenL; simp; omega)),zq1560 (zq904 (by omega) (by omega))]
   simp
  ·rw [zq517,zq1560 (zq1574 (zq1107 _) (zq1107 _) (by unfold lenL; simp; omega)),zq1560 (zq904 (by omega) (by omega))]
   simp
 ·simp only [zq1714]
  rw [decide_eq_false (show ¬ (ls.length : Int) < lenL ls by unfold lenL; omega),zq515]
end Go.Ma
namespace Go.Ma
open Go
theorem zq888 {ps : List Pf} {ks : List (List Ad)} {ls : List Ls} {now : Int} (h : StOk ps ks ls now) {i : Nat} {p : Pf} (hp : ps[i]? = some p) {who : ByteArray} (hs : strIn who) (hw : whoOk who = true) {ttl : Int} (ht : betw ttl 1 500 = true)
  (hr : ¬ (zq887 p (ks.getD i []) ls who now ttl).2.2.1 = false) : Given p (ks.getD i []) (ownL p ls) who now (now + ttl) (zq887 p (ks.getD i []) ls who now ttl).1 (zq887 p (ks.getD i []) ls who now ttl).2.1 := by
 have hg : zq886 p (ks.getD i []) (ownL p ls) who now ttl = ((zq887 p (ks.getD i []) ls who now ttl).1,(zq887 p (ks.getD i []) ls who now ttl).2.1,0,()) := by
  unfold zq886
  unfold zq887 at hr ⊢
  rw [if_neg (fun hh => hh (zq1370 h hp)),if_neg (by simp [hw]),if_neg (by simp [ht]),if_neg hr]
 exact (zq876 (h.pin p (zc5 hp)).1 (zq1368 h p).ins hs hg).2.2
theorem zq453 : ∀ {l : List Ls},(l.Pairwise fun x y => x.ad ≠ y.ad) → zq450 l = true
 | [],_ => rfl
 | x :: r,h => by
  obtain ⟨h1,h2⟩ := zc45.1 h
  simp only [zq450,zc4,zc17,decide_eq_true_eq]
  exact ⟨fun y hy => Ne.symm (h1 y hy),zq453 h2⟩
theorem zq463 {l : List Ls} (h : l.Pairwise fun x y => rank x.ad < rank y.ad) : l.Pairwise fun x y => x.ad ≠ y.ad := h.imp fun hab e => by rw [e] at hab; omega
theorem zq1219 {p : Pf} {m b : List Ls} (hm : m.Pairwise fun x y => x.ad ≠ y.ad) (hb : b.Pairwise fun x y => x.ad ≠ y.ad) (h1 : ∀ x ∈ m,holds p x.ad = true) (h2 : ∀ x ∈ b,holds p x.ad = false) : (m ++ b).Pairwise fun x y => x.ad ≠ y.ad := by
 rw [List.pairwise_append]
 exact ⟨hm,hb,fun x hx y hy e => by
  have e1 := h1 x hx
  rw [e,h2 y hy] at e1
  cases e1⟩
theorem zq1350 {ps : List Pf} {ks : List (List Ad)} {ls : List Ls} {now : Int} (h : StOk ps ks ls now) (p : Pf) : (othL p ls).Pairwise fun x y => rank x.ad < rank y.ad := ((zq464 h.lin).1 (zq438 h.all).2.2.1).filter _
theorem zq1351 {p : Pf} {ls : List Ls} : ∀ x ∈ othL p ls,holds p x.ad = false := fun x hx => by simpa using (List.mem_filter.1 hx).2
theorem zq1214 {ps : List Pf} {ks : List (List Ad)} {ls : List Ls} {now : Int} (h : StOk ps ks ls now) {p : Pf} {kp : List Ad} {l : List Ls} {who : ByteArray} {u : Int} {m : List Ls} {a : Ad} (g : Given p kp l who now u m a) (hlen : m.length + (othL p ls).length ≤ 20) : zq1685 (m ++ othL p ls) = true := by
 unfold zq1685
 have hne : (m ++ othL p ls).isEmpty = false := by
  have := g.mine
  cases m with
  | nil => cases this
  | cons x r => rfl
 rw [hne,zq1574 (zq1107 _) (by omega) (by unfold lenL; simp; omega),zq453 (zq1219 (zq463 g.good.asc) (zq463 (zq1350 h p)) g.good.held zq1351)]
 rfl
theorem zq1511 {ps : List Pf} {ks : List (List Ad)} {ls : List Ls} {now : Int} (h : StOk ps ks ls now) {o : Oq} (ho : o.In) (hf : formO o = 0) (hk : o.kind = 3) : zq1756 (ps,ks) ls now o = some (zq720 ps ks ls now o.who o.of_ o.n) := by
 obtain ⟨g1,g2⟩ := zq854 hf hk
 have hw := zq859 hf (.inl hk)
 obtain ⟨o1,o2⟩ := zq485.1 g1
 obtain ⟨n1,n2⟩ := zq485.1 g2
 obtain ⟨t1,t2⟩ := zq485.1 h.time
 have hpl := h.plen
 have hkl := h.klen
 have hll := h.llen
 obtain ⟨k,hk'⟩ : ∃ k : Nat,o.of_ = (k : Int) := ⟨o.of_.toNat,by omega⟩
 unfold zq1756 zq720
 rw [zq1699 ho,zq487,hf,decide_eq_true rfl,zc10,zq515,zq1708 h,zq487,decide_eq_false (show ¬ o.kind = 1 by omega),zq515,decide_eq_false (show ¬ o.kind = 2 by omega),zq515,decide_eq_true hk,zq517]
 simp only
 rw [hk',zc41]
 by_cases hkp : k < ps.length
 rotate_left
 ·rw [decide_eq_true (show (k : Int) ≥ lenL ps by unfold lenL; omega),zq517,zc22 (by omega)]; rfl
 obtain ⟨p,hp⟩ : ∃ e,ps[k]? = some e := ⟨_,zc0 hkp⟩
 obtain ⟨pin,cp⟩ := h.pin p (zc5 hp)
 obtain ⟨b1,b2⟩ := zq566 cp
 rw [decide_eq_false (show ¬ (k : Int) ≥ lenL ps by unfold lenL; omega),zq515,zq1560 (zq910 (by omega) (by unfold lenL; omega)),zq871 hp,zq487,zq1763 ps ks (by omega) now o.who,zq487,hp]
 simp only
 have haw : (br (decide (idxI (zq816 (whoP o.who) ls) ≥ 0)) (req (zq908 (idxI (zq816 (whoP o.who) ls)) (lenL ls)) (req (zq908 (idxI (zq816 (whoP o.who) ls)) (lenL ls)) ((geti ls (idxI (zq816 (whoP o.who) ls))).bind fun p5 => (zq1426 p p5.ad).bind fun y6 => some (!y6.1)))) (some false)) = some (awayB p ls o.who) := by
  unfold awayB
  rw [zq906]
  cases hw : zq816 (whoP o.who) ls with
  | none => rfl
  | some i =>
   have hil := zq819 hw
   obtain ⟨x,hx⟩ : ∃ e,ls[i]? = some e := ⟨_,zc0 hil⟩
   have r1 : zq908 (i : Int) (lenL ls) = true := zq910 (by omega) (by unfold lenL; omega)
   simp only [idxI,hx,Option.isSome]
   rw [zq517,zq1560 r1,zq1560 r1,zq871 hx,zq487,zq1424 b1 b2 (h.lin x (zc5 hx)).1,zq487]
 rw [haw,zq487]
 cases awayB p ls o.who
 rotate_left
 ·rfl
 simp only [zq515,zc16,if_false]
 have hsp := zq890 p cp ps ks h.lin hll now o
 rw [hk'] at hsp
 rw [hsp,zq487,zq730]
 simp only [zq869]
 have hok := zq564 (zq1370 h hp)
 have hrw := zq1075 (p := p) pin (kp := ks.getD k []) (zq1368 h p).ins (now := now) (ttl := o.n) hok.1 hok.2.1 (by omega) (by omega) o.who
 rw [show (⟨(⟨p.ad.v6,p.ad.hi,p.ad.lo⟩ : Ad),p.bits⟩ : Pf) = p from rfl,hrw,zq487]
 show br (!(zq887 p (ks.getD k []) ls o.who now o.n).2.2.1) _ _ = _
 cases hr : (zq887 p (ks.getD k []) ls o.who now o.n).2.2.1
 ·rfl
 have gv := zq888 h hp ho.2.2.2.1 hw g2 (by rw [hr]; simp)
 unfold zq887 at gv ⊢
 simp only [zc10,zq515,Bool.true_eq_false,if_false]
 have hml := gv.good.len pin cp (zq570 (h.pool k p hp)).2.1
 have hol : (othL p ls).length ≤ 20 := Nat.le_trans (List.length_filter_le _ _) hll
 generalize hR : rawOf p (ks.getD k []) (live (ownL p ls) now) o.who (now + o.n) = r at *
 rw [zq1560 (zq904 (by unfold lenL; omega) (by unfold lenL; omega))]
 by_cases h20 : r.1.length + (othL p ls).length > 20
 ·rw [decide_eq_true (show lenL r.1 + lenL (othL p ls) > 20 by unfold lenL; omega),zq517,if_pos h20]; rfl
 ·rw [decide_eq_false (show ¬ lenL r.1 + lenL (othL p ls) > 20 by unfold lenL; omega),zq515,if_neg h20,zq1560 (zq1574 (zq1107 _) (zq1107 _) (by unfold lenL; omega)),zq1560 (zq1214 h gv (by omega))]
  rfl
theorem zq1510 {ps : List Pf} {ks : List (List Ad)} {ls : List Ls} {now : Int} (h : StOk ps ks ls now) {o : Oq} (ho : o.In) (hf : formO o = 0) (hk : o.kind = 4) : zq1756 (ps,ks) ls now o = some (zq719 ps ks ls now o.who) := by
 have hll := h.llen
 unfold zq1756 zq719
 rw [zq1699 ho,zq487,hf,decide_eq_true rfl,zc10,zq515,zq1708 h,zq487,decide_eq_false (show ¬ o.kind = 1 by omega),zq515,decide_eq_false (show ¬ o.kind = 2 by omega),zq515,decide_eq_false (show ¬ o.kind = 3 by omega),zq515,decide_eq_true hk,zq517]
 simp only
 rw [zq1763 ps ks (by omega) now o.who,zq487]
 simp only [zq905]
 cases hw : zq816 (whoP o.who) ls with
 | none => rfl
 | some i =>
  have hil := zq819 hw
  obtain ⟨x,hx⟩ : ∃ e,ls[i]? = some e := ⟨_,zc0 hil⟩
  have r1 : zq908 (i : Int) (lenL ls) = true := zq910 (by omega) (by unfold lenL; omega)
  have r2 : (decide ((0 : Int) ≤ (i : Int)) && decide ((i : Int) ≤ (i : Int) + 1) && decide ((i : Int) + 1 ≤ lenL ls)) = true := by
   rw [decide_eq_true (show (0 : Int) ≤ (i : Int) by omega),decide_eq_true (show (i : Int) ≤ (i : Int) + 1 by omega),decide_eq_true (show (i : Int) + 1 ≤ lenL ls by unfold lenL; omega)]
   rfl
  have e1 : ((i : Int) + 1).toNat = i + 1 := by omega
  simp only [Option.isNone,zq515]
  rw [show idxI (some i) = (i : Int) from rfl,zq1560 r1,zq1560 r1,zq871 hx,zq487,zq1560 (zq904 (by omega) (by omega)),zq1560 r2,hx]
  simp only [okS,delL,e1,zc41]
theorem zq1514 {ps : List Pf} {ks : List (List Ad)} {ls : List Ls} {now : Int} (h : StOk ps ks ls now) {o : Oq} (ho : o.In) (hf : formO o = 0) (hk : o.kind = 5) : zq1756 (ps,ks) ls now o = some (zq726 ps ks ls now o.n) := by
 have hll := h.llen
 unfold zq1756 zq726
 rw [zq1699 ho,zq487,hf,decide_eq_true rfl,zc10,zq515,zq1708 h,zq487,decide_eq_false (show ¬ o.kind = 1 by omega),zq515,decide_eq_false (show ¬ o.kind = 2 by omega),zq515,decide_eq_false (show ¬ o.kind = 3 by omega),zq515,decide_eq_false (show ¬ o.kind = 4 by omega),zq515]
 simp only
 by_cases hn : o.n < now
 ·rw [decide_eq_true hn,zq517,if_pos hn]; rfl
 ·rw [decide_eq_false hn,zq515,if_neg hn,zq1041 (by omega),zq487]; rfl
theorem zq1754 {ps : List Pf} {ks : List (List Ad)} {ls : List Ls} {now : Int} (h : StOk ps ks ls now) {o : Oq} (ho : o.In) : zq1756 (ps,ks) ls now o = some (doOf ps ks ls now o) := by
 unfold doOf
 by_cases hf : formO o = 0
 rotate_left
 ·rw [if_pos hf]
  unfold zq1756
  rw [zq1699 ho,zq487,decide_eq_false hf,zc19,zq517]
  rfl
 rw [if_neg (fun hh => hh hf)]
 have hk := zq856 hf
 by_cases k1 : o.kind = 1
 ·rw [if_pos k1,zq1513 h ho hf k1]
 by_cases k2 : o.kind = 2
 ·rw [if_neg k1,if_pos k2,zq1512 h ho hf k2]
 by_cases k3 : o.kind = 3
 ·rw [if_neg k1,if_neg k2,if_pos k3,zq1511 h ho hf k3]
 by_cases k4 : o.kind = 4
 ·rw [if_neg k1,if_neg k2,if_neg k3,if_pos k4,zq1510 h ho hf k4]
 ·rw [if_neg k1,if_neg k2,if_neg k3,if_neg k4,zq1514 h ho hf (by omega)]
end Go.Ma
namespace Go.Ma
open Go
def insT {α : Type} (l : List α) (k : Nat) (p : α) (i : Nat) : List α := if i ≤ k then l.take i else l.take k ++ p :: (l.take i).drop k
theorem zq945 {α : Type} (l : List α) (k : Nat) (p : α) (i : Nat) (hi : i ≤ l.length) : (insT l k p i).length = if i ≤ k then i else i + 1 := by
 unfold insT
 split
 ·simp; omega
 ·simp; omega
theorem zq946 {α : Type} {l : List α} (k : Nat) (p : α) {i : Nat} {x : α} (hx : l[i]? = some x) : insT l k p (i + 1) = if i = k then insT l k p i ++ [p] ++ [x] else insT l k p i ++ [x] := by
 have hi := (zc1.1 hx).1
 have ht : l.take (i + 1) = l.take i ++ [x] := by rw [zc26 hi,(zc1.1 hx).2]
 unfold insT
 by_cases h1 : i = k
 ·subst h1
  rw [if_neg (by omega),if_pos rfl,if_pos (zc47 _),ht,List.drop_append,zc18 (by simp; omega),zc20,Nat.min_eq_left (by omega),Nat.sub_self]
  simp
 ·rw [if_neg h1]
  by_cases h2 : i + 1 ≤ k
  ·rw [if_pos h2,if_pos (by omega),ht]
  ·rw [if_neg h2,if_neg (by omega),ht,List.drop_append,zc20,Nat.min_eq_left (by omega),show k - i = 0 by omega]
   simp
theorem zq944 {α : Type} (l : List α) (k : Nat) (p : α) (hk : k ≤ l.length) : (if k < l.length then insT l k p l.length else insT l k p l.length ++ [p]) = putAt l k p := by
 unfold insT putAt
 by_cases h : k < l.length
 ·rw [if_pos h,if_neg (by omega),List.take_length]
 ·have : k = l.length := by omega
  subst this
  rw [if_neg h,if_pos (zc47 _),List.take_length,List.drop_length]
theorem zq1207 {p : Pf} (cp : chkP p = 0) : meets p p = true := by unfold meets; rw [zq1358 cp]; rfl
theorem zq430 {ps : List Pf} (hpw : ps.Pairwise zq451) {p : Pf} {i : Nat} {x : Pf} (hx : ps[i]? = some x) (hne : x ≠ p) : decide (ordP p x < 0) = decide (posP p ps ≤ i) := by
 have h1 := zq1400 hpw p hx
 refine decide_eq_decide.2 ⟨fun h => ?_,fun h => ?_⟩
 ·rcases Nat.lt_or_ge i (posP p ps) with hlt | hge
  ·have := zq1345 h (h1.2 hlt)
   rw [zq1344] at this
   omega
  ·exact hge
 ·have h2 : ¬ ordP x p < 0 := fun hh => by have := h1.1 hh; omega
  by_cases h3 : ordP p x < 0
  ·exact h3
  ·exfalso
   apply hne
   rw [zq1341] at h2 h3
   have hv := zq965 (v := x.ad.v6) (w := p.ad.v6) (by omega)
   obtain ⟨⟨xv,xh,xl⟩,xb⟩ := x
   obtain ⟨⟨pv,ph,pl⟩,pb⟩ := p
   simp only at hv h2 h3 ⊢
   have e1 : xh = ph := by omega
   have e2 : xl = pl := by omega
   have e3 : xb = pb := by omega
   rw [hv,e1,e2,e3]
def cMeet (ps : List Pf) (p : Pf) (i : Nat) : Int := match ps[i]? with | some x => if meets x p = true then 6 else 0 | none => 0
def fMeet (ps : List Pf) (p : Pf) (i : Nat) : Int := if (ps.drop i).any (fun x => meets x p) = true then 6 else 0
theorem zq1530 {ps : List Pf} {ks : List (List Ad)} {ls : List Ls} {now : Int} (h : StOk ps ks ls now) {o : Oq} (ho : o.In) (cp : chkP o.pf = 0) :
  loopN zq115 FUEL (((),(),(),(),(),(false,()),(0,()),()),(ks,ps,ls,(),(now,()),(o,()),((0 : Int),()),((⟨false,0,0⟩ : Ad),()),(now,()),([] : List Pf),([] : List Ls),([] : List Pf),([] : List (List Ad)),([] : List (List Ad)),())) =
   some (if ps.any (fun x => meets x o.pf) = true then Sum.inl (((),(),(6,()),()),(ks,ps,ls,(),(0,()),((⟨false,0,0⟩ : Ad),()),([] : List Pf),([] : List Ls),([] : List (List Ad)),()))
    else Sum.inr (((),(),(),(),(decide (posP o.pf ps < ps.length),()),()),(ks,ps,ls,(),(o,()),(0,()),((⟨false,0,0⟩ : Ad),()),(now,()),([] : List Pf),([] : List Ls),insT ps (posP o.pf ps) o.pf ps.length,([] : List (List Ad)),insT ks (posP o.pf ps) [] ps.length,()))) := by
 have hpl := h.plen
 have hkl := h.klen
 have := zq571 (step := zq115) ps.length 0 (Nat.zero_le _) (by omega) (cMeet ps o.pf) (fMeet ps o.pf)
  (fun i => (((),(),(),(),(),(decide (posP o.pf ps < i),()),((i : Int),()),()),(ks,ps,ls,(),(now,()),(o,()),((0 : Int),()),((⟨false,0,0⟩ : Ad),()),(now,()),([] : List Pf),([] : List Ls),insT ps (posP o.pf ps) o.pf i,([] : List (List Ad)),insT ks (posP o.pf ps) [] i,())))
  (Sum.inr (((),(),(),(),(decide (posP o.pf ps < ps.length),()),()),(ks,ps,ls,(),(o,()),(0,()),((⟨false,0,0⟩ : Ad),()),(now,()),([] : List Pf),([] : List Ls),insT ps (posP o.pf ps) o.pf ps.length,([] : List (List Ad)),insT ks (posP o.pf ps) [] ps.length,())))
  (fun e => Sum.inl (((),(),(e,()),()),(ks,ps,ls,(),(0,()),((⟨false,0,0⟩ : Ad),()),([] : List Pf),([] : List Ls),([] : List (List Ad)),()))) (fun i _ hi => ?_) (by unfold fMeet; rw [List.drop_length]; rfl) (fun rec i _ hi _ => ?_) (fun rec _ => ?_)
 ·rw [show ((0 : Nat) : Int) = 0 from rfl] at this
  have e1 : insT ps (posP o.pf ps) o.pf 0 = [] := by unfold insT; rw [if_pos (Nat.zero_le _)]; rfl
  have e2 : insT ks (posP o.pf ps) [] 0 = [] := by unfold insT; rw [if_pos (Nat.zero_le _)]; rfl
  rw [e1,e2,decide_eq_false (show ¬ posP o.pf ps < 0 by omega)] at this
  rw [this]
  unfold fMeet
  rw [List.drop_zero]
  cases ps.any (fun x => meets x o.pf) <;> rfl
 ·obtain ⟨x,hx⟩ : ∃ e,ps[i]? = some e := ⟨_,zc0 hi⟩
  unfold cMeet fMeet
  rw [hx,zq728 hx,List.any_cons]
  dsimp only
  by_cases hb : meets x o.pf = true <;> simp [hb]
 ·obtain ⟨x,hx⟩ : ∃ e,ps[i]? = some e := ⟨_,zc0 hi⟩
  obtain ⟨g1,g2⟩ := h.pin x (zc5 hx)
  have r1 : zq908 (i : Int) (lenL ps) = true := zq910 (by omega) (by unfold lenL; omega)
  have hki : i < ks.length := by omega
  have hkx : ks[i]? = some (ks.getD i []) := by rw [zc3,zc0 hki]; rfl
  have l1 := zq945 ps (posP o.pf ps) o.pf i (by omega)
  have l2 := zq945 ks (posP o.pf ps) [] i (by omega)
  have s1 := zq946 (posP o.pf ps) o.pf hx
  have s2 := zq946 (posP o.pf ps) [] hkx
  have hlen : (insT ks (posP o.pf ps) [] i).length = (insT ps (posP o.pf ps) o.pf i).length := by rw [l1,l2]
  have hle : (insT ps (posP o.pf ps) o.pf i).length ≤ i + 1 := by rw [l1]; split <;> omega
  unfold cMeet
  rw [hx]
  simp only [zq115]
  simp only [r1,zq1562,zq871 hx,zq487,zq112 g1 ho.2.1 g2 cp,zq227 ho.2.1 g1 cp g2,zq427 ho.2.1 g1,zq730,zq513,zq869]
  rw [decide_eq_true (show (i : Int) < lenL ps by unfold lenL; omega),zq517]
  simp only [show (over x o.pf || over o.pf x) = meets x o.pf from rfl]
  cases hm : meets x o.pf
  rotate_left
  ·rfl
  have hne : x ≠ o.pf := fun e => by rw [e,zq1207 cp] at hm; cases hm
  rw [zq430 h.pair hx hne]
  simp only [zq515,zc16,if_false,ne_eq,not_true]
  rw [zq1376 hlen,zq1376 (show (insT ks (posP o.pf ps) [] i ++ ([([] : List Ad)] : List (List Ad))).length = (insT ps (posP o.pf ps) o.pf i ++ ([o.pf] : List Pf)).length by simp [hlen])]
  rw [zq1560 (zq904 (by omega) (by omega)),zq1560 (zq904 (by omega) (by omega)),zq1560 (zq1574 (zq1107 _) (zq1107 _) (by unfold lenL; simp; omega)),zq1560 (zq1574 (zq1107 _) (zq1107 _) (by unfold lenL; simp; omega)),zq1560 (zq1574 (zq1107 _) (zq1107 _) (by unfold lenL; simp; omega))]
  rw [show ((i : Int) + 1) = ((i + 1 : Nat) : Int) by omega]
  rcases Nat.lt_trichotomy i (posP o.pf ps) with hlt | heq | hgt
  ·rw [decide_eq_false (show ¬ posP o.pf ps < i by omega),decide_eq_false (show ¬ posP o.pf ps ≤ i by omega)]
   rw [if_neg (by omega)] at s1 s2
   rw [s1,s2,decide_eq_false (show ¬ posP o.pf ps < i + 1 by omega)]
   rfl
  ·rw [decide_eq_false (show ¬ posP o.pf ps < i by omega),decide_eq_true (show posP o.pf ps ≤ i by omega)]
   rw [if_pos heq] at s1 s2
   rw [s1,s2,decide_eq_true (show posP o.pf ps < i + 1 by omega)]
   rfl
  ·rw [decide_eq_true (show posP o.pf ps < i by omega),decide_eq_true (show posP o.pf ps ≤ i by omega)]
   rw [if_neg (by omega)] at s1 s2
   rw [s1,s2,decide_eq_true (show posP o.pf ps < i + 1 by omega)]
   rfl
 ·simp only [zq115]
  rw [decide_eq_false (show ¬ (ps.length : Int) < lenL ps by unfold lenL; omega),zq515]
theorem zq1536 {ps : List Pf} {ks : List (List Ad)} {ls : List Ls} {now : Int} (h : StOk ps ks ls now) {o : Oq} (ho : o.In) (hf : formO o = 0) (hk : o.kind = 1) : zq138 (ps,ks) ls now o = some (zq725 ps ks ls now o.pf) := by
 obtain ⟨c1,c2⟩ := zq857 hf hk
 have hpl := h.plen
 have hkl := h.klen
 have hpo := zq1401 o.pf ps
 unfold zq138 zq725
 rw [zq97 ho,zq487,hf,decide_eq_true rfl,zc10,zq515,decide_eq_true hk,zq517]
 simp only
 rw [zq1530 h ho c1,zq487]
 cases ha : ps.any (fun x => meets x o.pf)
 rotate_left
 ·rfl
 simp only [zc16,if_false,sumC]
 have e1 := zq944 ps (posP o.pf ps) o.pf hpo
 have e2 := zq944 ks (posP o.pf ps) [] (by omega)
 have l1 := zq945 ps (posP o.pf ps) o.pf ps.length (zc47 _)
 have l2 := zq945 ks (posP o.pf ps) [] ps.length (by omega)
 have hlen : (insT ks (posP o.pf ps) [] ps.length).length = (insT ps (posP o.pf ps) o.pf ps.length).length := by rw [l1,l2]
 have hl4 : (putAt ps (posP o.pf ps) o.pf).length = ps.length + 1 := zq521 ps o.pf _ hpo
 rw [zq1376 hlen]
 rw [hkl] at e2
 by_cases hlt : posP o.pf ps < ps.length
 ·rw [if_pos hlt] at e1 e2
  rw [decide_eq_true hlt,zc10,zq515,e1,e2]
  by_cases h3 : ps.length = 3
  ·rw [decide_eq_true (show lenL (putAt ps (posP o.pf ps) o.pf) > 3 by unfold lenL; omega),zq517,if_pos h3]; rfl
  ·rw [decide_eq_false (show ¬ lenL (putAt ps (posP o.pf ps) o.pf) > 3 by unfold lenL; omega),zq515,if_neg h3]; rfl
 ·rw [if_neg hlt] at e1 e2
  rw [decide_eq_false hlt,zc19,zq517,zq1560 (zq1574 (zq1107 _) (zq1107 _) (by
   have : (insT ps (posP o.pf ps) o.pf ps.length).length ≤ 4 := by rw [l1]; split <;> omega
   unfold lenL; simp; omega)),e1,e2]
  by_cases h3 : ps.length = 3
  ·rw [decide_eq_true (show lenL (putAt ps (posP o.pf ps) o.pf) > 3 by unfold lenL; omega),zq517,if_pos h3]; rfl
  ·rw [decide_eq_false (show ¬ lenL (putAt ps (posP o.pf ps) o.pf) > 3 by unfold lenL; omega),zq515,if_neg h3]; rfl
theorem zq1336 {a b : Ad} (h : ordA a b < 0) : ¬ ordA b a < 0 := fun h2 => by
 have := zq1339 h h2
 rw [zq1337.2 rfl] at this
 omega
theorem zq1340 {a b : Ad} (h : ¬ ordA a b < 0) (hne : a ≠ b) : ordA b a < 0 := by
 by_cases h2 : ordA b a < 0
 ·exact h2
 ·exfalso
  apply hne
  rw [← zq1337]
  have h1 := (zq1338 a b).1
  have h3 := (zq1338 b a).1
  have := (zq1338 a b).2
  rw [h1] at h
  rw [h3] at h2
  exact this.2 (by omega)
theorem zq1531 {kp : List Ad} (hin : adIn kp) (hch : ∀ a ∈ kp,chkA a = 0) (hpw : kp.Pairwise fun a b => ordA a b < 0) (hlen : kp.length ≤ 6) (ps : List Pf) (ks : List (List Ad)) (ls : List Ls) (now : Int) {a : Ad} (ha : a.In) (ca : chkA a = 0) (hno : kp.any (fun x => decide (a = x)) = false) (i : Nat) :
  loopN zq118 FUEL (((),(),(),(),((i : Int),()),(),((kp.length : Int),()),()),(ks,ps,ls,(),(now,()),((0 : Int),()),((⟨false,0,0⟩ : Ad),()),(now,()),kp ++ [a],([] : List Pf),([] : List Ls),([] : List (List Ad)),())) =
   some (((),(),(),(),((i : Int),()),(),()),(ks,ps,ls,(),(now,()),((0 : Int),()),((⟨false,0,0⟩ : Ad),()),(now,()),putAt kp (posA a kp) a,([] : List Pf),([] : List Ls),([] : List (List Ad)),())) := by
 have hne : ∀ x ∈ kp,a ≠ x := fun x hx e => by
  rw [List.any_eq_false] at hno
  exact hno x hx (decide_eq_true e)
 refine zq522 (step := zq118) kp a (posA a kp) (zq1397 _ _) (by omega) (fun k l => (((),(),(),(),((i : Int),()),(),((k : Int),()),()),(ks,ps,ls,(),(now,()),((0 : Int),()),((⟨false,0,0⟩ : Ad),()),(now,()),l,([] : List Pf),([] : List Ls),([] : List (List Ad)),()))) _ (fun rec k hk hkl => ?_) (fun rec => ?_)
 ·obtain ⟨y,hy⟩ : ∃ e,kp[k - 1]? = some e := ⟨_,zc0 (by omega)⟩
  have hym := zc5 hy
  have hlt : ordA a y < 0 := zq1340 (fun h => by have := (zq1396 hpw a hy).1 h; omega) (Ne.symm (hne y hym))
  have hL := zq521 kp a k hkl
  have r1 : zq908 (k : Int) (lenL (kp.take k ++ a :: kp.drop k)) = true := zq910 (by omega) (by unfold lenL; rw [hL]; omega)
  have r2 : zq908 ((k : Int) - 1) (lenL (kp.take k ++ a :: kp.drop k)) = true := zq910 (by omega) (by unfold lenL; rw [hL]; omega)
  have r3 : i64ok ((k : Int) - 1) = true := zq904 (by omega) (by omega)
  have ek : ((k : Int) - 1) = ((k - 1 : Nat) : Int) := by omega
  have g1 : geti (kp.take k ++ a :: kp.drop k) (k : Int) = some a := zq871 (zq520 kp a k hkl)
  have g2 : geti (kp.take k ++ a :: kp.drop k) ((k : Int) - 1) = some y := by rw [ek]; exact zq871 (by rw [zq523 kp a k (k - 1) (by omega) hkl,hy])
  have hs : seti (seti (kp.take k ++ a :: kp.drop k) (k : Int) y) ((k : Int) - 1) a = kp.take (k - 1) ++ a :: kp.drop (k - 1) := by
   rw [ek]
   simp only [seti,zc41]
   exact zq524 kp a k y (by omega) hkl hy
  have r4 : zq908 ((k : Int) - 1) (lenL (seti (kp.take k ++ a :: kp.drop k) (k : Int) y)) = true := zq910 (by omega) (by unfold lenL seti; rw [zc43,hL]; omega)
  obtain ⟨z,hz⟩ : ∃ z,geti (seti (kp.take k ++ a :: kp.drop k) (k : Int) y) ((k : Int) - 1) = some z := by
   rw [ek,zq872]
   exact ⟨_,zc0 (by simp only [seti,zc43,hL]; omega)⟩
  simp only [zq118]
  simp only [r1,r2,r3,r4,zq1562,g1,g2,hz,zq487,zq184 ha (hin y hym) ca (hch y hym),zq429 ha (hin y hym)]
  rw [decide_eq_true (show (k : Int) > 0 by omega),zq517,zq487,decide_eq_true hlt,zq517,hs,ek]
 ·simp only [zq118]
  have hL := zq521 kp a (posA a kp) (zq1397 _ _)
  by_cases h0 : posA a kp = 0
  ·rw [decide_eq_false (show ¬ ((posA a kp : Nat) : Int) > 0 by omega),zq515,zq487,zq515]
   rfl
  ·have hpl := zq1397 a kp
   obtain ⟨y,hy⟩ : ∃ e,kp[posA a kp - 1]? = some e := ⟨_,zc0 (by omega)⟩
   have hym := zc5 hy
   have hlt : ¬ ordA a y < 0 := zq1336 ((zq1396 hpw a hy).2 (by omega))
   have ek : (((posA a kp : Nat) : Int) - 1) = ((posA a kp - 1 : Nat) : Int) := by omega
   have r1 : zq908 ((posA a kp : Nat) : Int) (lenL (kp.take (posA a kp) ++ a :: kp.drop (posA a kp))) = true := zq910 (by omega) (by unfold lenL; rw [hL]; omega)
   have r2 : zq908 (((posA a kp : Nat) : Int) - 1) (lenL (kp.take (posA a kp) ++ a :: kp.drop (posA a kp))) = true := zq910 (by omega) (by unfold lenL; rw [hL]; omega)
   have r3 : i64ok (((posA a kp : Nat) : Int) - 1) = true := zq904 (by omega) (by omega)
   have g1 : geti (kp.take (posA a kp) ++ a :: kp.drop (posA a kp)) ((posA a kp : Nat) : Int) = some a := zq871 (zq520 kp a _ hpl)
   have g2 : geti (kp.take (posA a kp) ++ a :: kp.drop (posA a kp)) (((posA a kp : Nat) : Int) - 1) = some y := by rw [ek]; exact zq871 (by rw [zq523 kp a _ _ (by omega) hpl,hy])
   simp only [r1,r2,r3,zq1562,g1,g2,zq487,zq184 ha (hin y hym) ca (hch y hym),zq429 ha (hin y hym)]
   rw [decide_eq_true (show ((posA a kp : Nat) : Int) > 0 by omega),zq517,zq487,decide_eq_false hlt,zq515]
   rfl
theorem zq1529 {ps : List Pf} {ks : List (List Ad)} {ls : List Ls} {now : Int} (h : StOk ps ks ls now) {o : Oq} (ho : o.In) (hf : formO o = 0) (hk : o.kind = 2) : zq138 (ps,ks) ls now o = some (zq721 ps ks ls now o.ad) := by
 have ca := zq855 hf hk
 have hpl := h.plen
 have hkl := h.klen
 unfold zq138 zq721
 rw [zq97 ho,zq487,hf,decide_eq_true rfl,zc10,zq515,decide_eq_false (show ¬ o.kind = 1 by omega),zq515,decide_eq_true hk,zq517,zq221 h.pin (by omega) ks ls now ho.2.2.1 ca,zq487]
 simp only [zq905]
 cases hx : zq1388 ps o.ad with
 | none => rfl
 | some i =>
  have hil := zq819 hx
  obtain ⟨p,hp⟩ : ∃ e,ps[i]? = some e := ⟨_,zc0 hil⟩
  obtain ⟨k1,k2,k3,k4,k5⟩ := zq569.1 (h.pool i p hp)
  have hin := kp_at h.kin i
  have hik : i < ks.length := by omega
  have r1 : zq908 (i : Int) (lenL ps) = true := zq910 (by omega) (by unfold lenL; omega)
  simp only [Option.isNone,zq515]
  rw [show idxI (some i) = (i : Int) from rfl]
  simp only [r1,zq1562,zq871 hp,zq487,zq869]
  generalize hkp : ks.getD i [] = kp at *
  rw [zq316 (by omega),zq487]
  simp only
  cases hany : kp.any (fun x => decide (o.ad = x))
  rotate_left
  ·rfl
  simp only [zq515,zc16,if_false]
  by_cases h6 : kp.length = 6
  ·rw [decide_eq_true (show lenL kp = 6 by unfold lenL; omega),zq517,if_pos h6]; rfl
  rw [decide_eq_false (show ¬ lenL kp = 6 by unfold lenL; omega),zq515,if_neg h6]
  have e0 : lenL (kp ++ [o.ad]) - 1 = (kp.length : Int) := by unfold lenL; simp
  simp only [zc42,e0,zq730,zq513]
  rw [zq1560 (zq1574 (by simp [lenL]) (zq1107 _) (by unfold lenL; simp; omega)),zq1560 (zq1574 (zq1107 _) (by simp [lenL]) (by unfold lenL; simp; omega)),zq1560 (zq904 (by omega) (by omega)),
   zq1531 hin (fun a ha => (k4 a ha).1) k5 k3 ps ks ls now ho.2.2.1 ca hany i,zq487]
  simp only [zc42]
  rw [zq1560 (zq1574 (by simp [lenL]) (zq1107 _) (by unfold lenL; simp; omega))]
  simp only [r1,zq1562,zq871 hp,zq487]
  have e1 : (padL ([] : List Pf).length ([] : List (List Ad)) ++ ks) = ks := by simp [padL]
  rw [e1]
  simp only [seti,zc41,zq1614 hp,zq1376 hkl,okS,noAd]
theorem zq1527 {ps : List Pf} {ks : List (List Ad)} {ls : List Ls} {now : Int} (h : StOk ps ks ls now) {o : Oq} (ho : o.In) (hf : formO o = 0) (hk : o.kind = 4) : zq138 (ps,ks) ls now o = some (zq719 ps ks ls now o.who) := by
 have hll := h.llen
 unfold zq138 zq719
 rw [zq97 ho,zq487,hf,decide_eq_true rfl,zc10,zq515,decide_eq_false (show ¬ o.kind = 1 by omega),zq515,decide_eq_false (show ¬ o.kind = 2 by omega),zq515,decide_eq_false (show ¬ o.kind = 3 by omega),zq515,decide_eq_true hk,zq517,zq295 (by omega),zq487]
 simp only [zq905]
 cases hw : zq816 (whoP o.who) ls with
 | none => rfl
 | some i =>
  have hil := zq819 hw
  obtain ⟨x,hx⟩ : ∃ e,ls[i]? = some e := ⟨_,zc0 hil⟩
  have r1 : zq908 (i : Int) (lenL ls) = true := zq910 (by omega) (by unfold lenL; omega)
  have r2 : (decide ((0 : Int) ≤ (i : Int)) && decide ((i : Int) ≤ lenL ls)) = true := by
   rw [decide_eq_true (show (0 : Int) ≤ (i : Int) by omega),decide_eq_true (show (i : Int) ≤ lenL ls by unfold lenL; omega)]
   rfl
  have r3 : (decide ((0 : Int) ≤ (i : Int) + 1) && decide ((i : Int) + 1 ≤ lenL ls) && decide (lenL ls ≤ lenL ls)) = true := by
   rw [decide_eq_true (show (0 : Int) ≤ (i : Int) + 1 by omega),decide_eq_true (show (i : Int) + 1 ≤ lenL ls by unfold lenL; omega),decide_eq_true (zc48 _)]
   rfl
  have r4 : i64ok ((i : Int) + 1) = true := zq904 (by omega) (by omega)
  have s1 : subL ls 0 (i : Int) = ls.take i := by simp [subL]
  have s2 : subL ls ((i : Int) + 1) (lenL ls) = ls.drop (i + 1) := by
   have e1 : ((i : Int) + 1).toNat = i + 1 := by omega
   have e2 : (lenL ls).toNat = ls.length := by unfold lenL; omega
   simp [subL,e1,e2]
  simp only [Option.isNone,zq515]
  rw [show idxI (some i) = (i : Int) from rfl]
  have r5 : room (lenL ([] : List Ls)) (lenL (ls.take i)) = true := zq1574 (by simp [lenL]) (zq1107 _) (by unfold lenL; simp; omega)
  have r6 : room (lenL (ls.take i)) (lenL (ls.drop (i + 1))) = true := zq1574 (zq1107 _) (zq1107 _) (by unfold lenL; simp; omega)
  simp only [r1,r2,r3,r4,r5,r6,s1,s2,zc42,zq1562,zq871 hx,zq487,zq730,zq513,hx]
  rfl
theorem zq1537 {ps : List Pf} {ks : List (List Ad)} {ls : List Ls} {now : Int} (h : StOk ps ks ls now) {o : Oq} (ho : o.In) (hf : formO o = 0) (hk : o.kind = 5) : zq138 (ps,ks) ls now o = some (zq726 ps ks ls now o.n) := by
 have hll := h.llen
 unfold zq138 zq726
 rw [zq97 ho,zq487,hf,decide_eq_true rfl,zc10,zq515,decide_eq_false (show ¬ o.kind = 1 by omega),zq515,decide_eq_false (show ¬ o.kind = 2 by omega),zq515,decide_eq_false (show ¬ o.kind = 3 by omega),zq515,decide_eq_false (show ¬ o.kind = 4 by omega),zq515]
 by_cases hn : o.n < now
 ·rw [decide_eq_true hn,zq517,if_pos hn]; rfl
 ·rw [decide_eq_false hn,zq515,if_neg hn,zq208 (by omega),zq487]; rfl
end Go.Ma
namespace Go.Ma
open Go
theorem zq388 (a b : Ad) : adLt a b = decide (ordA a b < 0) := by
 rw [Bool.eq_iff_iff,zq384,decide_eq_true_iff,(zq1338 a b).1]
 unfold kV
 cases a.v6 <;> cases b.v6 <;> simp
theorem zq942 (x : Ls) : ∀ l : List Ls,insS x l = putAt l (posF x.ad l) x
 | [] => rfl
 | y :: r => by
  unfold insS putAt posF
  rw [List.takeWhile_cons,zq388]
  by_cases h : ordA y.ad x.ad < 0
  ·rw [if_pos (decide_eq_true h),if_pos (decide_eq_true h),zq942 x r]
   rfl
  ·rw [if_neg (by simpa using h),if_neg (by simpa using h)]
   rfl
theorem zq1398 {l : List Ls} (h : l.Pairwise leL) (a : Ad) {i : Nat} {x : Ls} (hx : l[i]? = some x) : ordA x.ad a < 0 ↔ i < posF a l := by
 have := zq1820 (q := fun y : Ls => decide (ordA y.ad a < 0)) (l := l) (h.imp fun {u v} huv hv => by
  simp only [decide_eq_true_eq] at hv ⊢
  unfold leL at huv
  rw [zq388,decide_eq_false_iff_not] at huv
  by_cases he : u.ad = v.ad
  ·rw [he]; exact hv
  ·exact zq1339 (zq1340 huv (Ne.symm he)) hv) hx
 simpa [posF] using this
def zq1213 : List Ls → List Ls → List Ls
 | acc,[] => acc
 | acc,x :: r => zq1213 (insS x acc) r
theorem zq1215 : ∀ (acc m : List Ls),(zq1213 acc m).Perm (m ++ acc)
 | acc,[] => .refl _
 | acc,x :: r => (zq1215 (insS x acc) r).trans (((zq941 x acc).append_left r).trans List.perm_middle)
theorem zq1216 : ∀ (acc m : List Ls),acc.Pairwise leL → (zq1213 acc m).Pairwise leL
 | acc,[],h => h
 | acc,x :: r,h => zq1216 _ r (zq943 x acc h)
theorem zq1217 {acc m : List Ls} (h : acc.Pairwise leL) (ha : zq450 (m ++ acc) = true) : zq1213 acc m = sortL (m ++ acc) := zq1688 (zq1215 acc m) (zq1216 acc m h) ha
theorem zq1218 (acc : List Ls) {m : List Ls} {i : Nat} {x : Ls} (hx : m[i]? = some x) : zq1213 acc (m.take (i + 1)) = insS x (zq1213 acc (m.take i)) := by
 rw [zq1808 hx]
 generalize m.take i = l
 induction l generalizing acc with
 | nil => rfl
 | cons y r ih => exact ih _
theorem zq461 {l : List Ls} (hin : lsIn l) (h : l.Pairwise fun x y => rank x.ad < rank y.ad) : l.Pairwise leL := by
 refine List.Pairwise.imp_of_mem (fun {u v} hu hv huv => ?_) h
 unfold leL
 rw [zq388,decide_eq_false_iff_not,(zq1348 (hin v hv).1 (hin u hu).1).1]
 omega
abbrev DM := List (List Ad) × List Pf × List Ls × Unit × (Int × Unit) × (Ad × Unit) × (Int × Unit) × List Ls × (Ad × Unit) × List Pf × List Ls × List Ls × List (List Ad) × Unit
theorem zq1535 {acc : List Ls} (hin : lsIn acc) (hch : ∀ y ∈ acc,chkLs y = 0) (hpw : acc.Pairwise leL) (hlen : acc.length ≤ 1048576) {x : Ls} (hx : x.ad.In) (cx : chkA x.ad = 0) (hne : ∀ y ∈ acc,y.ad ≠ x.ad) (ps : List Pf) (ks : List (List Ad)) (ls m : List Ls) (now : Int) (a : Ad) (i : Nat) :
  loopN zq130 FUEL (((),(),(),(),(),((i : Int),()),((acc.length : Int),()),()),((ks,ps,ls,(),((0 : Int),()),((⟨false,0,0⟩ : Ad),()),(now,()),m,(a,()),([] : List Pf),([] : List Ls),acc ++ [x],([] : List (List Ad)),()) : DM)) =
   some (((),(),(),(),(),((i : Int),()),()),((ks,ps,ls,(),((0 : Int),()),((⟨false,0,0⟩ : Ad),()),(now,()),m,(a,()),([] : List Pf),([] : List Ls),insS x acc,([] : List (List Ad)),()) : DM)) := by
 rw [zq942]
 have hple := zq1399 x.ad acc
 refine zq522 (step := zq130) acc x (posF x.ad acc) hple (by omega) (fun k l => (((),(),(),(),(),((i : Int),()),((k : Int),()),()),((ks,ps,ls,(),((0 : Int),()),((⟨false,0,0⟩ : Ad),()),(now,()),m,(a,()),([] : List Pf),([] : List Ls),l,([] : List (List Ad)),()) : DM))) _ (fun rec k hk hkl => ?_) (fun rec => ?_)
 ·obtain ⟨y,hy⟩ : ∃ e,acc[k - 1]? = some e := ⟨_,zc0 (by omega)⟩
  have hym := zc5 hy
  have hlt : ordA x.ad y.ad < 0 := zq1340 (fun h => by have := (zq1398 hpw x.ad hy).1 h; omega) (hne y hym)
  have hL := zq521 acc x k hkl
  have r1 : zq908 (k : Int) (lenL (acc.take k ++ x :: acc.drop k)) = true := zq910 (by omega) (by unfold lenL; rw [hL]; omega)
  have r2 : zq908 ((k : Int) - 1) (lenL (acc.take k ++ x :: acc.drop k)) = true := zq910 (by omega) (by unfold lenL; rw [hL]; omega)
  have r3 : i64ok ((k : Int) - 1) = true := zq904 (by omega) (by omega)
  have ek : ((k : Int) - 1) = ((k - 1 : Nat) : Int) := by omega
  have g1 : geti (acc.take k ++ x :: acc.drop k) (k : Int) = some x := zq871 (zq520 acc x k hkl)
  have g2 : geti (acc.take k ++ x :: acc.drop k) ((k : Int) - 1) = some y := by rw [ek]; exact zq871 (by rw [zq523 acc x k (k - 1) (by omega) hkl,hy])
  have hs : seti (seti (acc.take k ++ x :: acc.drop k) (k : Int) y) ((k : Int) - 1) x = acc.take (k - 1) ++ x :: acc.drop (k - 1) := by
   rw [ek]
   simp only [seti,zc41]
   exact zq524 acc x k y (by omega) hkl hy
  have r4 : zq908 ((k : Int) - 1) (lenL (seti (acc.take k ++ x :: acc.drop k) (k : Int) y)) = true := zq910 (by omega) (by unfold lenL seti; rw [zc43,hL]; omega)
  obtain ⟨z,hz⟩ : ∃ z,geti (seti (acc.take k ++ x :: acc.drop k) (k : Int) y) ((k : Int) - 1) = some z := by
   rw [ek,zq872]
   exact ⟨_,zc0 (by simp only [seti,zc43,hL]; omega)⟩
  simp only [zq130]
  simp only [r1,r2,r3,r4,zq1562,g1,g2,hz,zq487,zq730,zq513,zq184 hx (hin y hym).1 cx (zq561 (hch y hym)).1,zq429 hx (hin y hym).1]
  rw [decide_eq_true (show (k : Int) > 0 by omega),zq517,zq487,decide_eq_true hlt,zq517,hs,ek]
 ·simp only [zq130]
  have hL := zq521 acc x (posF x.ad acc) hple
  by_cases h0 : posF x.ad acc = 0
  ·rw [decide_eq_false (show ¬ ((posF x.ad acc : Nat) : Int) > 0 by omega),zq515,zq487,zq515]
   rfl
  ·obtain ⟨y,hy⟩ : ∃ e,acc[posF x.ad acc - 1]? = some e := ⟨_,zc0 (by omega)⟩
   have hym := zc5 hy
   have hlt : ¬ ordA x.ad y.ad < 0 := zq1336 ((zq1398 hpw x.ad hy).2 (by omega))
   have ek : (((posF x.ad acc : Nat) : Int) - 1) = ((posF x.ad acc - 1 : Nat) : Int) := by omega
   have r1 : zq908 ((posF x.ad acc : Nat) : Int) (lenL (acc.take (posF x.ad acc) ++ x :: acc.drop (posF x.ad acc))) = true := zq910 (by omega) (by unfold lenL; rw [hL]; omega)
   have r2 : zq908 (((posF x.ad acc : Nat) : Int) - 1) (lenL (acc.take (posF x.ad acc) ++ x :: acc.drop (posF x.ad acc))) = true := zq910 (by omega) (by unfold lenL; rw [hL]; omega)
   have r3 : i64ok (((posF x.ad acc : Nat) : Int) - 1) = true := zq904 (by omega) (by omega)
   have g1 : geti (acc.take (posF x.ad acc) ++ x :: acc.drop (posF x.ad acc)) ((posF x.ad acc : Nat) : Int) = some x := zq871 (zq520 acc x _ hple)
   have g2 : geti (acc.take (posF x.ad acc) ++ x :: acc.drop (posF x.ad acc)) (((posF x.ad acc : Nat) : Int) - 1) = some y := by rw [ek]; exact zq871 (by rw [zq523 acc x _ _ (by omega) hple,hy])
   simp only [r1,r2,r3,zq1562,g1,g2,zq487,zq184 hx (hin y hym).1 cx (zq561 (hch y hym)).1,zq429 hx (hin y hym).1]
   rw [decide_eq_true (show ((posF x.ad acc : Nat) : Int) > 0 by omega),zq517,zq487,decide_eq_false hlt,zq515]
   rfl
theorem zq1534 {m acc : List Ls} (hm : lsIn m) (cm : ∀ y ∈ m,chkLs y = 0) (hacc : lsIn acc) (cacc : ∀ y ∈ acc,chkLs y = 0) (hpw : acc.Pairwise leL) (hap : (m ++ acc).Pairwise fun x y => x.ad ≠ y.ad) (hlen : m.length + acc.length ≤ 1000) (ps : List Pf) (ks : List (List Ad)) (ls : List Ls) (now : Int) (a : Ad) :
  loopN zq127 FUEL (((),(),(),(),(),(0,()),()),((ks,ps,ls,(),((0 : Int),()),((⟨false,0,0⟩ : Ad),()),(now,()),m,(a,()),([] : List Pf),([] : List Ls),acc,([] : List (List Ad)),()) : DM)) =
   some (((),(),(),(),()),(ks,ps,ls,(),((0 : Int),()),((⟨false,0,0⟩ : Ad),()),(now,()),(a,()),([] : List Pf),([] : List Ls),zq1213 acc m,([] : List (List Ad)),())) := by
 have hmem : ∀ i,∀ y ∈ zq1213 acc (m.take i),y ∈ m.take i ∨ y ∈ acc := fun i y hy => zc36.1 ((zq1215 acc (m.take i)).mem_iff.1 hy)
 have := zq1179 (step := zq127) (fun i => (((),(),(),(),(),((i : Int),()),()),((ks,ps,ls,(),((0 : Int),()),((⟨false,0,0⟩ : Ad),()),(now,()),m,(a,()),([] : List Pf),([] : List Ls),zq1213 acc (m.take i),([] : List (List Ad)),()) : DM))) m.length
  (fun _ => some (((),(),(),(),()),(ks,ps,ls,(),((0 : Int),()),((⟨false,0,0⟩ : Ad),()),(now,()),(a,()),([] : List Pf),([] : List Ls),zq1213 acc m,([] : List (List Ad)),()))) (fun rec i hi hr => ?_) (fun rec => ?_) FUEL 0 (Nat.zero_le _) (zq865 (by omega))
 ·rw [show ((0 : Nat) : Int) = 0 from rfl,List.take_zero] at this
  exact this
 ·obtain ⟨x,hx⟩ : ∃ e,m[i]? = some e := ⟨_,zc0 hi⟩
  have hxm := zc5 hx
  have hin : lsIn (zq1213 acc (m.take i)) := fun y hy => by
   rcases hmem i y hy with h | h
   ·exact hm y (List.mem_of_mem_take h)
   ·exact hacc y h
  have hch : ∀ y ∈ zq1213 acc (m.take i),chkLs y = 0 := fun y hy => by
   rcases hmem i y hy with h | h
   ·exact cm y (List.mem_of_mem_take h)
   ·exact cacc y h
  have hne : ∀ y ∈ zq1213 acc (m.take i),y.ad ≠ x.ad := fun y hy => by
   obtain ⟨p1,p2,p3⟩ := List.pairwise_append.1 hap
   rcases hmem i y hy with h | h
   ·obtain ⟨j,hj⟩ := zc30.1 h
    rw [zc14] at hj
    split at hj
    ·rename_i hji
     rw [List.pairwise_iff_getElem] at p1
     obtain ⟨j1,j2⟩ := zc1.1 hj
     have := p1 j i j1 hi hji
     rwa [j2,(zc1.1 hx).2] at this
    ·cases hj
   ·exact Ne.symm (p3 x hxm y h)
  have hml : (zq1213 acc (m.take i)).length = i + acc.length := by
   rw [(zq1215 acc (m.take i)).length_eq]
   simp; omega
  have e0 : lenL (zq1213 acc (m.take i) ++ [x]) - 1 = ((zq1213 acc (m.take i)).length : Int) := by unfold lenL; simp
  simp only [zq127]
  rw [decide_eq_true (show (i : Int) < lenL m by unfold lenL; omega),zq517,zq1560 (zq910 (by omega) (by unfold lenL; omega)),zq871 hx,zq487,zq1560 (zq1574 (zq1107 _) (by simp [lenL]) (by unfold lenL; simp; omega)),e0,zq1560 (zq904 (by omega) (by omega)),
   zq1535 hin hch (zq1216 acc _ hpw) (by omega) (hm x hxm).1 (zq561 (cm x hxm)).1 hne ps ks ls m now a i,zq487]
  simp only
  rw [show ((i : Int) + 1) = ((i + 1 : Nat) : Int) by omega,zq1560 (zq904 (by omega) (by omega)),← zq1218 acc hx,hr]
 ·simp only [zq127]
  rw [decide_eq_false (show ¬ (m.length : Int) < lenL m by unfold lenL; omega),zq515,List.take_length]
abbrev DO := List (List Ad) × List Pf × List Ls × Unit × (Int × Unit) × (Oq × Unit) × (Int × Unit) × (Ad × Unit) × (Int × Unit) × (Bool × Int × Int × Int × Int × Unit) × List Ls × List Pf × List Ls × List (List Ad) × Unit
theorem zq1532 {p : Pf} (hp : p.In) (cp : chkP p = 0) (ps : List Pf) (ks : List (List Ad)) {ls : List Ls} (hl : lsIn ls) (hc : ∀ x ∈ ls,chkLs x = 0) (h20 : ls.length ≤ 20) (now : Int) (o : Oq) (k : Int) :
  loopN zq121 FUEL (((),(),(),(),(),(),(),(0,()),()),((ks,ps,ls,(),(now,()),(o,()),((0 : Int),()),((⟨false,0,0⟩ : Ad),()),(now,()),(p.ad.v6,p.ad.hi,p.ad.lo,p.bits,k,()),([] : List Ls),([] : List Pf),([] : List Ls),([] : List (List Ad)),()) : DO)) =
   some (((),(),(),(),(),(),(),()),((ks,ps,ls,(),(now,()),(o,()),((0 : Int),()),((⟨false,0,0⟩ : Ad),()),(now,()),(p.ad.v6,p.ad.hi,p.ad.lo,p.bits,k,()),ownL p ls,([] : List Pf),([] : List Ls),([] : List (List Ad)),()) : DO)) := by
 refine zq848 (step := zq121) ls (fun x => holds p x.ad) (fun i b => (((),(),(),(),(),(),(),((i : Int),()),()),((ks,ps,ls,(),(now,()),(o,()),((0 : Int),()),((⟨false,0,0⟩ : Ad),()),(now,()),(p.ad.v6,p.ad.hi,p.ad.lo,p.bits,k,()),b,([] : List Pf),([] : List Ls),([] : List (List Ad)),()) : DO)))
  (fun b => (((),(),(),(),(),(),(),()),((ks,ps,ls,(),(now,()),(o,()),((0 : Int),()),((⟨false,0,0⟩ : Ad),()),(now,()),(p.ad.v6,p.ad.hi,p.ad.lo,p.bits,k,()),b,([] : List Pf),([] : List Ls),([] : List (List Ad)),()) : DO))) (by omega) (fun rec i x b hx hi hb => ?_) (fun rec b => ?_)
 ·have hxm := zc5 hx
  have r1 : zq908 (i : Int) (lenL ls) = true := zq910 (by omega) (by unfold lenL; omega)
  simp only [zq121]
  rw [decide_eq_true (show (i : Int) < lenL ls by unfold lenL; omega),zq517]
  simp only [r1,zq1562,zq871 hx,zq487]
  rw [show (⟨(⟨p.ad.v6,p.ad.hi,p.ad.lo⟩ : Ad),p.bits⟩ : Pf) = p from rfl,zq169 hp cp (hl x hxm).1 (zq561 (hc x hxm)).1,zq487,show ((i : Int) + 1) = ((i + 1 : Nat) : Int) by omega]
  cases holds p x.ad
  ·rw [zq515,zq1560 (zq904 (by omega) (by omega))]
   simp
  ·rw [zq517,zq1560 (zq1574 (zq1107 _) (zq1107 _) (by unfold lenL; simp; omega)),zq1560 (zq904 (by omega) (by omega))]
   simp
 ·simp only [zq121]
  rw [decide_eq_false (show ¬ (ls.length : Int) < lenL ls by unfold lenL; omega),zq515]
abbrev DQ := List (List Ad) × List Pf × List Ls × Unit × (Int × Unit) × (Int × Unit) × (Ad × Unit) × (Int × Unit) × (Bool × Int × Int × Int × Int × Unit) × List Ls × (Ad × Unit) × List Pf × List Ls × List Ls × List (List Ad) × Unit
theorem zq1533 {p : Pf} (hp : p.In) (cp : chkP p = 0) (ps : List Pf) (ks : List (List Ad)) {ls : List Ls} (hl : lsIn ls) (hc : ∀ x ∈ ls,chkLs x = 0) (h20 : ls.length ≤ 20) (now : Int) (k : Int) (m : List Ls) (a : Ad) :
  loopN zq124 FUEL (((),(),(),(),(),(),(),(0,()),()),((ks,ps,ls,(),(now,()),((0 : Int),()),((⟨false,0,0⟩ : Ad),()),(now,()),(p.ad.v6,p.ad.hi,p.ad.lo,p.bits,k,()),m,(a,()),([] : List Pf),([] : List Ls),([] : List Ls),([] : List (List Ad)),()) : DQ)) =
   some (((),(),(),(),(),()),((ks,ps,ls,(),((0 : Int),()),((⟨false,0,0⟩ : Ad),()),(now,()),m,(a,()),([] : List Pf),([] : List Ls),othL p ls,([] : List (List Ad)),()) : DM)) := by
 refine zq848 (step := zq124) ls (fun x => !holds p x.ad) (fun i b => (((),(),(),(),(),(),(),((i : Int),()),()),((ks,ps,ls,(),(now,()),((0 : Int),()),((⟨false,0,0⟩ : Ad),()),(now,()),(p.ad.v6,p.ad.hi,p.ad.lo,p.bits,k,()),m,(a,()),([] : List Pf),([] : List Ls),b,([] : List (List Ad)),()) : DQ)))
  (fun b => (((),(),(),(),(),()),((ks,ps,ls,(),((0 : Int),()),((⟨false,0,0⟩ : Ad),()),(now,()),m,(a,()),([] : List Pf),([] : List Ls),b,([] : List (List Ad)),()) : DM))) (by omega) (fun rec i x b hx hi hb => ?_) (fun rec b => ?_)
 ·have hxm := zc5 hx
  have r1 : zq908 (i : Int) (lenL ls) = true := zq910 (by omega) (by unfold lenL; omega)
  simp only [zq124]
  rw [decide_eq_true (show (i : Int) < lenL ls by unfold lenL; omega),zq517]
  simp only [r1,zq1562,zq871 hx,zq487]
  rw [show (⟨(⟨p.ad.v6,p.ad.hi,p.ad.lo⟩ : Ad),p.bits⟩ : Pf) = p from rfl,zq169 hp cp (hl x hxm).1 (zq561 (hc x hxm)).1,zq487,show ((i : Int) + 1) = ((i + 1 : Nat) : Int) by omega]
  cases holds p x.ad
  ·rw [zc19,zq517,zq1560 (zq1574 (zq1107 _) (zq1107 _) (by unfold lenL; simp; omega)),zq1560 (zq904 (by omega) (by omega))]
   simp
  ·rw [zc10,zq515,zq1560 (zq904 (by omega) (by omega))]
   simp
 ·simp only [zq124]
  rw [decide_eq_false (show ¬ (ls.length : Int) < lenL ls by unfold lenL; omega),zq515]
theorem zq1352 {p : Pf} {ls : List Ls} (h : lsIn ls) : lsIn (othL p ls) := fun x hx => h x (List.mem_filter.1 hx).1
theorem zq1528 {ps : List Pf} {ks : List (List Ad)} {ls : List Ls} {now : Int} (h : StOk ps ks ls now) {o : Oq} (ho : o.In) (hf : formO o = 0) (hk : o.kind = 3) : zq138 (ps,ks) ls now o = some (zq720 ps ks ls now o.who o.of_ o.n) := by
 obtain ⟨g1,g2⟩ := zq854 hf hk
 have hw := zq859 hf (.inl hk)
 obtain ⟨o1,o2⟩ := zq485.1 g1
 obtain ⟨n1,n2⟩ := zq485.1 g2
 obtain ⟨t1,t2⟩ := zq485.1 h.time
 have hpl := h.plen
 have hkl := h.klen
 have hll := h.llen
 have hlc := h.lchk
 obtain ⟨k,hk'⟩ : ∃ k : Nat,o.of_ = (k : Int) := ⟨o.of_.toNat,by omega⟩
 unfold zq138 zq720
 rw [zq97 ho,zq487,hf,decide_eq_true rfl,zc10,zq515,decide_eq_false (show ¬ o.kind = 1 by omega),zq515,decide_eq_false (show ¬ o.kind = 2 by omega),zq515,decide_eq_true hk,zq517]
 simp only
 rw [hk',zc41]
 by_cases hkp : k < ps.length
 rotate_left
 ·rw [decide_eq_true (show (k : Int) ≥ lenL ps by unfold lenL; omega),zq517,zc22 (by omega)]; rfl
 obtain ⟨p,hp⟩ : ∃ e,ps[k]? = some e := ⟨_,zc0 hkp⟩
 obtain ⟨pin,cp⟩ := h.pin p (zc5 hp)
 rw [decide_eq_false (show ¬ (k : Int) ≥ lenL ps by unfold lenL; omega),zq515,zq1560 (zq910 (by omega) (by unfold lenL; omega)),zq871 hp,zq487,zq295 (by omega),zq487,hp]
 simp only
 have haw : (br (decide (idxI (zq816 (whoP o.who) ls) ≥ 0)) (req (zq908 (idxI (zq816 (whoP o.who) ls)) (lenL ls)) (req (zq908 (idxI (zq816 (whoP o.who) ls)) (lenL ls)) ((geti ls (idxI (zq816 (whoP o.who) ls))).bind fun p5 => (zq171 p p5.ad).bind fun y6 => some (!y6.1)))) (some false)) = some (awayB p ls o.who) := by
  unfold awayB
  rw [zq906]
  cases hw : zq816 (whoP o.who) ls with
  | none => rfl
  | some i =>
   have hil := zq819 hw
   obtain ⟨x,hx⟩ : ∃ e,ls[i]? = some e := ⟨_,zc0 hil⟩
   have hxm := zc5 hx
   have r1 : zq908 (i : Int) (lenL ls) = true := zq910 (by omega) (by unfold lenL; omega)
   simp only [idxI,hx,Option.isSome]
   rw [zq517,zq1560 r1,zq1560 r1,zq871 hx,zq487,zq169 pin cp (h.lin x hxm).1 (zq561 (hlc x hxm)).1,zq487]
 rw [haw,zq487]
 cases awayB p ls o.who
 rotate_left
 ·rfl
 simp only [zq515,zc16,if_false]
 rw [zq1532 pin cp ps ks h.lin hlc hll now o (k : Int),zq487]
 simp only [zq869]
 have hok := zq564 (zq1370 h hp)
 have hrw := zq163 (p := p) pin (kp := ks.getD k []) (zq1368 h p).ins (now := now) (ttl := o.n) hok.1 hok.2.1 (zq904 (by omega) (by omega)) o.who
 rw [show (⟨(⟨p.ad.v6,p.ad.hi,p.ad.lo⟩ : Ad),p.bits⟩ : Pf) = p from rfl,hrw,zq487]
 show br (!(zq887 p (ks.getD k []) ls o.who now o.n).2.2.1) _ _ = _
 cases hr : (zq887 p (ks.getD k []) ls o.who now o.n).2.2.1
 ·rfl
 have gv := zq888 h hp ho.2.2.2.1 hw g2 (by rw [hr]; simp)
 unfold zq887 at gv ⊢
 simp only [zc10,zq515,Bool.true_eq_false,if_false]
 have hml := gv.good.len pin cp (zq570 (h.pool k p hp)).2.1
 have hol : (othL p ls).length ≤ 20 := Nat.le_trans (List.length_filter_le _ _) hll
 generalize hR : rawOf p (ks.getD k []) (live (ownL p ls) now) o.who (now + o.n) = r at *
 have hap := zq1219 (zq463 gv.good.asc) (zq463 (zq1350 h p)) gv.good.held zq1351
 rw [zq1533 pin cp ps ks h.lin hlc hll now (k : Int) r.1 r.2.1,zq487]
 simp only
 rw [zq1534 gv.good.ins gv.good.chk (zq1352 h.lin) (fun y hy => hlc y (List.mem_filter.1 hy).1) (zq461 (zq1352 h.lin) (zq1350 h p)) hap (by omega) ps ks ls now r.2.1,zq487]
 simp only
 rw [zq1217 (zq461 (zq1352 h.lin) (zq1350 h p)) (zq453 hap)]
 have hsl : (sortL (r.1 ++ othL p ls)).length = r.1.length + (othL p ls).length := by rw [(zq1683 _).length_eq]; simp
 by_cases h20 : r.1.length + (othL p ls).length > 20
 ·rw [decide_eq_true (show lenL (sortL (r.1 ++ othL p ls)) > 20 by unfold lenL; omega),zq517,if_pos h20]; rfl
 ·rw [decide_eq_false (show ¬ lenL (sortL (r.1 ++ othL p ls)) > 20 by unfold lenL; omega),zq515,if_neg h20]
  rfl
theorem zq136 {ps : List Pf} {ks : List (List Ad)} {ls : List Ls} {now : Int} (h : StOk ps ks ls now) {o : Oq} (ho : o.In) : zq138 (ps,ks) ls now o = some (doOf ps ks ls now o) := by
 unfold doOf
 by_cases hf : formO o = 0
 rotate_left
 ·rw [if_pos hf]
  unfold zq138
  rw [zq97 ho,zq487,decide_eq_false hf,zc19,zq517]
  rfl
 rw [if_neg (fun hh => hh hf)]
 have hk := zq856 hf
 by_cases k1 : o.kind = 1
 ·rw [if_pos k1,zq1536 h ho hf k1]
 by_cases k2 : o.kind = 2
 ·rw [if_neg k1,if_pos k2,zq1529 h ho hf k2]
 by_cases k3 : o.kind = 3
 ·rw [if_neg k1,if_neg k2,if_pos k3,zq1528 h ho hf k3]
 by_cases k4 : o.kind = 4
 ·rw [if_neg k1,if_neg k2,if_neg k3,if_pos k4,zq1527 h ho hf k4]
 ·rw [if_neg k1,if_neg k2,if_neg k3,if_neg k4,zq1537 h ho hf (by omega)]
end Go.Ma
namespace Go.Ma
open Go
theorem zq246 {l : List Ad} (hl : l.length < 9223372036854775808) : zq247 l l = some (true,()) := by
 unfold zq247
 rw [decide_eq_true rfl,zc10,zq515]
 have := zq1179 (step := zq239) (fun i => (((),(),((i : Int),()),()),(l,l,()))) l.length (fun _ => some (Sum.inr ((),(l,l,())))) (fun rec i hi hr => ?_) (fun rec => ?_) FUEL 0 (Nat.zero_le _) (zq865 (by omega))
 ·rw [show ((0 : Nat) : Int) = 0 from rfl] at this
  rw [this]; rfl
 ·obtain ⟨x,hx⟩ : ∃ e,l[i]? = some e := ⟨_,zc0 hi⟩
  have r1 : zq908 (i : Int) (lenL l) = true := zq910 (by omega) (by unfold lenL; omega)
  simp only [zq239]
  simp only [r1,zq1562,zq871 hx,zq487,zq748]
  rw [decide_eq_true (show (i : Int) < lenL l by unfold lenL; omega),zq517]
  simp only [decide_true,zc10,zq515]
  rw [show ((i : Int) + 1) = ((i + 1 : Nat) : Int) by omega,zq1560 (zq904 (by omega) (by omega)),hr]
 ·simp only [zq239]
  rw [decide_eq_false (show ¬ (l.length : Int) < lenL l by unfold lenL; omega),zq515]
def fitS (ps : List Pf) (ks : List (List Ad)) (ls : List Ls) : Prop := ps.length < 9223372036854775808 ∧ (∀ i,(ks.getD i []).length < 9223372036854775808) ∧ ls.length < 9223372036854775808
theorem zq287 {ps : List Pf} {ks : List (List Ad)} {ls : List Ls} (h : fitS ps ks ls) (now : Int) : zq288 (ps,ks) ls now (ps,ks) ls now = some (true,()) := by
 obtain ⟨h1,h2,h3⟩ := h
 unfold zq288
 rw [zq268 h3]
 simp only [decide_true,zc10,zq515,zq487]
 have := zq1179 (step := zq280) (fun i => (((),(),((i : Int),()),()),(ks,ps,ls,ks,ps,ls,(now,()),(now,()),()))) ps.length (fun _ => some (Sum.inr ((),(ks,ps,ls,ks,ps,ls,())))) (fun rec i hi hr => ?_) (fun rec => ?_) FUEL 0 (Nat.zero_le _) (zq865 (by omega))
 ·rw [show ((0 : Nat) : Int) = 0 from rfl] at this
  rw [this]; rfl
 ·obtain ⟨x,hx⟩ : ∃ e,ps[i]? = some e := ⟨_,zc0 hi⟩
  have r1 : zq908 (i : Int) (lenL ps) = true := zq910 (by omega) (by unfold lenL; omega)
  simp only [zq280]
  simp only [r1,zq1562,zq871 hx,zq487,zq756,zq869,zq246 (h2 i)]
  rw [decide_eq_true (show (i : Int) < lenL ps by unfold lenL; omega),zq517]
  simp only [decide_true,zc10,zq515,zq487]
  rw [show ((i : Int) + 1) = ((i + 1 : Nat) : Int) by omega,zq1560 (zq904 (by omega) (by omega)),hr]
 ·simp only [zq280]
  rw [decide_eq_false (show ¬ (ps.length : Int) < lenL ps by unfold lenL; omega),zq515]
theorem zq828 : fitS ([] : List Pf) ([] : List (List Ad)) ([] : List Ls) := ⟨by decide,fun i => by simp,by decide⟩
theorem zq1020 {ps : List Pf} {ks : List (List Ad)} {ls : List Ls} (h : fitS ps ks ls) (now e : Int) (ps' : List Pf) (ks' : List (List Ad)) (ls' : List Ls) (now' : Int)
  (hs : (((ps,ks),ls,now,()) : StV) = if e = 0 then ((ps',ks'),ls',now',()) else noSt) : zq1022 (ps,ks) ls now e e (ps',ks') ls' now' = some (true,()) := by
 unfold zq1022
 by_cases h0 : e = 0
 ·rw [if_pos h0] at hs
  simp only [zc11] at hs
  obtain ⟨⟨rfl,rfl⟩,rfl,rfl,_⟩ := hs
  rw [decide_eq_true h0,zc10,zq515,decide_eq_true rfl,zq517,zq287 h]
  rfl
 ·rw [if_neg h0] at hs
  unfold noSt at hs
  simp only [zc11] at hs
  obtain ⟨⟨rfl,rfl⟩,rfl,rfl,_⟩ := hs
  rw [decide_eq_false h0,zc19,zq517,decide_eq_true rfl,zq517,zq287 zq828]
  rfl
theorem zq1792 : strIn ByteArray.empty := by unfold strIn maxLen; decide
theorem zq1252 : (⟨false,0,0⟩ : Ad).In := ⟨⟨by decide,by decide⟩,by decide,by decide⟩
theorem zq1254 : (⟨⟨false,0,0⟩,0⟩ : Pf).In := ⟨zq1252,by decide,by decide⟩
theorem sc0 : chkS [] [] [] 0 = 0 := by decide +kernel
theorem zq1383 : ∀ p ∈ ([] : List Pf),p.In := fun p hp => by cases hp
theorem zq981 : kpIn ([] : List (List Ad)) := fun p hp => by cases hp
theorem zq722 {ps : List Pf} {ks : List (List Ad)} {ls : List Ls} {now : Int} {o : Oq} : (doOf ps ks ls now o).2.2.1 ≠ 0 → doOf ps ks ls now o = errS (doOf ps ks ls now o).2.2.1 := by
 have he : ∀ e : Int,errS e = errS (errS e).2.2.1 := fun _ => rfl
 have ho : ∀ (ps : List Pf) (ks : List (List Ad)) (ls : List Ls) (now : Int) (a : Ad),(okS ps ks ls now a).2.2.1 ≠ 0 → okS ps ks ls now a = errS (okS ps ks ls now a).2.2.1 := fun _ _ _ _ _ h => absurd rfl h
 unfold doOf
 split
 ·exact fun _ => he _
 split
 ·unfold zq725
  split
  ·exact fun _ => he _
  split
  ·exact fun _ => he _
  ·exact ho _ _ _ _ _
 split
 ·unfold zq721
  split
  ·exact fun _ => he _
  split
  ·exact fun _ => he _
  split
  ·exact fun _ => he _
  ·exact ho _ _ _ _ _
 split
 ·unfold zq720
  split
  ·exact fun _ => he _
  split
  ·exact fun _ => he _
  split
  ·exact fun _ => he _
  split
  ·exact fun _ => he _
  ·exact ho _ _ _ _ _
 split
 ·unfold zq719
  split
  ·exact fun _ => he _
  split
  ·exact ho _ _ _ _ _
  ·exact fun _ => he _
 ·unfold zq726
  split
  ·exact fun _ => he _
  ·exact ho _ _ _ _ _
end Go.Ma
namespace Go.Ma
open Go
section
variable {α : Type}
theorem zq1210 {l : List α} {n : Nat} {x y : α} : y ∈ putAt l n x ↔ y ∈ l ∨ y = x := by
 unfold putAt
 conv => rhs; rw [← List.take_append_drop n l]
 simp only [zc36,zc28]
 constructor
 ·rintro (h | h | h)
  ·exact .inl (.inl h)
  ·exact .inr h
  ·exact .inl (.inr h)
 ·rintro ((h | h) | h)
  ·exact .inl h
  ·exact .inr (.inr h)
  ·exact .inr (.inl h)
theorem zq1468 {l : List α} {n : Nat} {x : α} : (putAt l n x).length = l.length + 1 := by
 unfold putAt
 have := congrArg List.length (List.take_append_drop n l)
 simp only [zc24,zc21] at this ⊢
 omega
theorem zq1467 {l : List α} {n : Nat} (hn : n ≤ l.length) (x : α) (i : Nat) : (putAt l n x)[i]? = if i < n then l[i]? else if i = n then some x else l[i - 1]? := zq950 hn x i
theorem zq1469 {R : α → α → Prop} {l : List α} {n : Nat} {x : α} (h : l.Pairwise R) (h1 : ∀ i y,l[i]? = some y → i < n → R y x) (h2 : ∀ i y,l[i]? = some y → n ≤ i → R x y) : (putAt l n x).Pairwise R := by
 unfold putAt
 have hs : (l.take n ++ l.drop n).Pairwise R := by rw [List.take_append_drop]; exact h
 obtain ⟨a1,a2,a3⟩ := List.pairwise_append.1 hs
 refine List.pairwise_append.2 ⟨a1,zc45.2 ⟨fun y hy => ?_,a2⟩,fun y hy z hz => ?_⟩
 ·obtain ⟨i,hi⟩ := zc30.1 hy
  rw [zc39] at hi
  exact h2 _ y hi (by omega)
 ·rcases zc28.1 hz with rfl | hz
  ·obtain ⟨i,hi⟩ := zc30.1 hy
   rw [zc14] at hi
   split at hi
   ·exact h1 i y hi (by assumption)
   ·cases hi
  ·exact a3 y hy z hz
end
theorem zq867 {l : List (List Ad)} {n : Nat} (hn : n ≤ l.length) (x : List Ad) (i : Nat) : (putAt l n x).getD i [] = if i < n then l.getD i [] else if i = n then x else l.getD (i - 1) [] := by
 simp only [zc3,zq1467 hn]
 split
 ·rfl
 split <;> rfl
theorem zq1278 {ps : List Pf} {ks : List (List Ad)} {ls : List Ls} {now : Int} (h : StOk ps ks ls now) {p : Pf} (hp : p.In) (c1 : chkP p = 0) (c2 : ((wid p.ad.v6 : Nat) : Int) - p.bits ≤ 4) (hno : ps.any (fun q => meets q p) = false) (h3 : ps.length ≠ 3) :
  StOk (putAt ps (posP p ps) p) (putAt ks (posP p ps) []) ls now := by
 have hpl := h.plen
 have hkl := h.klen
 have hle := zq1401 p ps
 have hno' : ∀ q ∈ ps,meets q p = false := fun q hq => by
  rw [List.any_eq_false] at hno
  simpa using hno q hq
 refine ⟨fun q hq => ?_,fun k hk => ?_,h.lin,by rw [zq1468,zq1468,hkl],by rw [zq1468]; omega,fun i q hq => ?_,?_,h.time,h.all,fun x hx => ?_,h.upto,h.who⟩
 ·rcases zq1210.1 hq with hq | rfl
  ·exact h.pin q hq
  ·exact ⟨hp,c1⟩
 ·rcases zq1210.1 hk with hk | rfl
  ·exact h.kin k hk
  ·exact fun a ha => by cases ha
 ·rw [zq1467 hle] at hq
  rw [zq867 (by omega)]
  split
  ·rename_i hi; rw [if_pos hi] at hq; exact h.pool i q hq
  ·rename_i hi
   rw [if_neg hi] at hq
   split
   ·rename_i he
    rw [if_pos he] at hq
    injection hq with hq
    subst hq
    exact zq569.2 ⟨c1,c2,by simp,(fun a ha => by cases ha),List.Pairwise.nil⟩
   ·rename_i he
    rw [if_neg he] at hq
    exact h.pool (i - 1) q hq
 ·refine zq1469 h.pair (fun i y hy hi => ⟨(zq1400 h.pair p hy).2 hi,hno' y (zc5 hy)⟩) (fun i y hy hi => ?_)
  have hne : y ≠ p := fun e => by have := hno' y (zc5 hy); rw [e,zq1207 c1] at this; cases this
  have := zq430 h.pair hy hne
  rw [decide_eq_true hi] at this
  exact ⟨of_decide_eq_true this,by rw [zq1204]; exact hno' y (zc5 hy)⟩
 ·obtain ⟨q,hq,hh⟩ := h.has x hx
  exact ⟨q,zq1210.2 (.inl hq),hh⟩
theorem zq1277 {ps : List Pf} {ks : List (List Ad)} {ls : List Ls} {now : Int} (h : StOk ps ks ls now) {a : Ad} (ha : a.In) (ca : chkA a = 0) {i : Nat} (hi : zq1388 ps a = some i) (hno : (ks.getD i []).any (fun x => decide (a = x)) = false) (h6 : (ks.getD i []).length ≠ 6) :
  StOk ps (ks.set i (putAt (ks.getD i []) (posA a (ks.getD i [])) a)) ls now := by
 have hkl := h.klen
 obtain ⟨p,hp,hh,_⟩ := zq821 hi
 have hil := zq819 hi
 obtain ⟨k1,k2,k3,k4,k5⟩ := zq569.1 (h.pool i p hp)
 have hne : ∀ x ∈ ks.getD i [],a ≠ x := fun x hx e => by
  rw [List.any_eq_false] at hno
  exact hno x hx (decide_eq_true e)
 have hkin := kp_at h.kin i
 have hget : ∀ j,(ks.set i (putAt (ks.getD i []) (posA a (ks.getD i [])) a)).getD j [] = if j = i then putAt (ks.getD i []) (posA a (ks.getD i [])) a else ks.getD j [] := fun j => by
  rw [zc3]
  by_cases hj : j = i
  ·subst hj
   rw [List.getElem?_set_self (by omega),if_pos rfl]; rfl
  ·rw [List.getElem?_set_ne (by omega),if_neg hj,zc3]
 refine ⟨h.pin,fun k hk => ?_,h.lin,by rw [zc43,hkl],h.plen,fun j q hq => ?_,h.pair,h.time,h.all,h.has,h.upto,h.who⟩
 ·rcases List.mem_or_eq_of_mem_set hk with hk | rfl
  ·exact h.kin k hk
  ·intro b hb
   rcases zq1210.1 hb with hb | rfl
   ·exact hkin b hb
   ·exact ha
 ·rw [hget]
  split
  ·rename_i hj
   subst hj
   rw [hp] at hq
   injection hq with hq
   subst hq
   refine zq569.2 ⟨k1,k2,by rw [zq1468]; omega,fun b hb => ?_,?_⟩
   ·rcases zq1210.1 hb with hb | rfl
    ·exact k4 b hb
    ·exact ⟨ca,hh⟩
   ·exact zq1469 k5 (fun n y hy hn => (zq1396 k5 a hy).2 hn) (fun n y hy hn => zq1340 (fun hlt => by have := (zq1396 k5 a hy).1 hlt; omega) (Ne.symm (hne y (zc5 hy))))
  ·exact h.pool j q hq
theorem zq437 {l : List Ls} (hin : lsIn l) (h20 : l.length ≤ 20) (hc : ∀ x ∈ l,chkLs x = 0) (ha : l.Pairwise fun x y => rank x.ad < rank y.ad) {now : Int} (ht : betw now 0 9999 = true) : allC l now = 0 := by
 unfold allC
 rw [if_neg (by omega),if_neg (fun hh => hh (zq560 hc)),(zq464 hin).2 ha,if_neg (by simp),ht]
 simp
theorem zq1275 {ps : List Pf} {ks : List (List Ad)} {ls : List Ls} {now : Int} (h : StOk ps ks ls now) {m : List Ls} (hs : m.Sublist ls) {n : Int} (hn : now ≤ n) (ht : betw n 0 9999 = true) (hu : ∀ x ∈ m,n ≤ x.upto) : StOk ps ks m n := by
 have hin : lsIn m := fun x hx => h.lin x (hs.subset hx)
 exact ⟨h.pin,h.kin,hin,h.klen,h.plen,h.pool,h.pair,ht,zq437 hin (Nat.le_trans hs.length_le h.llen) (fun x hx => h.lchk x (hs.subset hx)) (((zq464 h.lin).1 (zq438 h.all).2.2.1).sublist hs) ht,
  fun x hx => h.has x (hs.subset hx),hu,h.who.sublist hs⟩
theorem zq1276 {ps : List Pf} {ks : List (List Ad)} {ls : List Ls} {now : Int} (h : StOk ps ks ls now) {k : Nat} {p : Pf} (hp : ps[k]? = some p) {kp : List Ad} {who : ByteArray} {u : Int} {m : List Ls} {a : Ad} (g : Given p kp (ownL p ls) who now u m a)
  (hw : ∀ x ∈ m,∀ y ∈ othL p ls,x.who ≠ y.who) (h20 : m.length + (othL p ls).length ≤ 20) : StOk ps ks (sortL (m ++ othL p ls)) now := by
 have hmem : ∀ x,x ∈ sortL (m ++ othL p ls) ↔ x ∈ m ∨ x ∈ othL p ls := fun x => by rw [(zq1683 _).mem_iff,zc36]
 have hpm := zc5 hp
 have hap := zq1219 (zq463 g.good.asc) (zq463 (zq1350 h p)) g.good.held zq1351
 have hin : lsIn (sortL (m ++ othL p ls)) := fun x hx => by
  rcases (hmem x).1 hx with hx | hx
  ·exact g.good.ins x hx
  ·exact zq1352 h.lin x hx
 have hasc : (sortL (m ++ othL p ls)).Pairwise fun x y => rank x.ad < rank y.ad := by
  have h1 := zq1684 (m ++ othL p ls)
  have h2 : (sortL (m ++ othL p ls)).Pairwise fun x y => x.ad ≠ y.ad := ((zq1683 _).pairwise_iff (fun hxy => Ne.symm hxy)).2 hap
  refine List.Pairwise.imp_of_mem (fun {x y} hx hy hxy => ?_) (h1.and h2)
  obtain ⟨e1,e2⟩ := hxy
  unfold leL at e1
  rw [zq388,decide_eq_false_iff_not] at e1
  exact (zq1348 (hin x hx).1 (hin y hy).1).1.1 (zq1340 e1 (Ne.symm e2))
 refine ⟨h.pin,h.kin,hin,h.klen,h.plen,h.pool,h.pair,h.time,zq437 hin (by rw [(zq1683 _).length_eq,zc24]; exact h20) (fun x hx => ?_) hasc h.time,fun x hx => ?_,fun x hx => ?_,?_⟩
 ·rcases (hmem x).1 hx with hx | hx
  ·exact g.good.chk x hx
  ·exact h.lchk x (List.mem_filter.1 hx).1
 ·rcases (hmem x).1 hx with hx | hx
  ·exact ⟨p,hpm,g.good.held x hx⟩
  ·exact h.has x (List.mem_filter.1 hx).1
 ·rcases (hmem x).1 hx with hx | hx
  ·exact g.alive x hx
  ·exact h.upto x (List.mem_filter.1 hx).1
 ·refine ((zq1683 _).pairwise_iff (fun hxy => Ne.symm hxy)).2 (List.pairwise_append.2 ⟨g.good.whos,h.who.filter _,hw⟩)
theorem zq877 {p : Pf} {kp : List Ad} {l : List Ls} {who : ByteArray} {now u : Int} {m : List Ls} (hr : m = (rawOf p kp (live l now) who u).1) : ∀ x ∈ m,x.who = who ∨ x ∈ l := by
 intro x hx
 subst hr
 unfold rawOf at hx
 cases hf : zq816 (whoP who) (live l now) with
 | some k =>
  rw [hf] at hx
  obtain ⟨e,he,hq,_⟩ := zq821 hf
  simp only [zq968,he] at hx
  rcases zq1212 hx with hx | rfl
  ·exact .inr (zq1121 hx).1
  ·exact .inl (by simpa [whoP] using hq)
 | none =>
  rw [hf] at hx
  cases hfr : zq862 p kp (live l now) with
  | none => rw [hfr] at hx; cases hx
  | some b =>
   rw [hfr] at hx
   rcases zq1209.1 hx with hx | rfl
   ·exact .inr (zq1121 hx).1
   ·exact .inl rfl
theorem zq466 {p : Pf} {ls : List Ls} {who : ByteArray} (h : awayB p ls who = false) (hw : ls.Pairwise fun x y => x.who ≠ y.who) : ∀ x ∈ othL p ls,x.who ≠ who := by
 intro x hx he
 obtain ⟨h1,h2⟩ := List.mem_filter.1 hx
 obtain ⟨k,hk,hk2⟩ := zq1847 hw h1
 unfold awayB at h
 rw [← he,hk] at h
 simp only [hk2] at h
 rw [h] at h2
 cases h2
theorem zq723 {ps : List Pf} {ks : List (List Ad)} {ls : List Ls} {now : Int} (h : StOk ps ks ls now) {o : Oq} (ho : o.In) {ps' : List Pf} {ks' : List (List Ad)} {ls' : List Ls} {now' : Int} {a : Ad} (he : doOf ps ks ls now o = okS ps' ks' ls' now' a) : StOk ps' ks' ls' now' ∧ now ≤ now' := by
 have hno : ∀ {e : Int},e ≠ 0 → errS e = okS ps' ks' ls' now' a → StOk ps' ks' ls' now' ∧ now ≤ now' := fun hn he => absurd (congrArg (fun y => y.2.2.1) he) hn
 have hok : ∀ {p1 : List Pf} {k1 : List (List Ad)} {l1 : List Ls} {n1 : Int} {a1 : Ad},okS p1 k1 l1 n1 a1 = okS ps' ks' ls' now' a → StOk p1 k1 l1 n1 → now ≤ n1 → StOk ps' ks' ls' now' ∧ now ≤ now' := fun he h1 h2 => by
  unfold okS at he
  simp only [zc11] at he
  obtain ⟨⟨⟨rfl,rfl⟩,rfl,rfl,_⟩,_⟩ := he
  exact ⟨h1,h2⟩
 unfold doOf at he
 split at he
 ·rename_i hf; exact hno hf he
 rename_i hf
 have hf := zc50.1 hf
 split at he
 ·rename_i hk
  obtain ⟨c1,c2⟩ := zq857 hf hk
  unfold zq725 at he
  split at he
  ·exact hno (by decide) he
  rename_i ha
  split at he
  ·exact hno (by decide) he
  rename_i h3
  exact hok he (zq1278 h ho.2.1 c1 c2 (by simpa using ha) h3) (zc48 _)
 split at he
 ·rename_i hk
  unfold zq721 at he
  split at he
  ·exact hno (by decide) he
  rename_i i hi
  split at he
  ·exact hno (by decide) he
  rename_i ha
  split at he
  ·exact hno (by decide) he
  rename_i h6
  exact hok he (zq1277 h ho.2.2.1 (zq855 hf hk) hi (Bool.eq_false_iff.2 ha) h6) (zc48 _)
 split at he
 ·rename_i hk
  obtain ⟨g1,g2⟩ := zq854 hf hk
  have hw := zq859 hf (.inl hk)
  unfold zq720 at he
  split at he
  ·exact hno (by decide) he
  rename_i p hp
  split at he
  ·exact hno (by decide) he
  rename_i haw
  split at he
  ·exact hno (by decide) he
  rename_i hr
  split at he
  ·exact hno (by decide) he
  rename_i h20
  have gv := zq888 h hp ho.2.2.2.1 hw g2 hr
  refine hok he (zq1276 h hp gv (fun x hx y hy e => ?_) (by omega)) (zc48 _)
  rcases zq877 rfl x hx with hx | hx
  ·exact zq466 (by simpa using haw) h.who y hy (by rw [← e,hx])
  ·obtain ⟨x1,x2⟩ := List.mem_filter.1 hx
   obtain ⟨y1,y2⟩ := List.mem_filter.1 hy
   obtain ⟨i,hi,hi2⟩ := zq1847 h.who x1
   obtain ⟨j,hj,hj2⟩ := zq1847 h.who y1
   rw [e,hj] at hi
   injection hi with hi
   subst hi
   rw [hj2] at hi2
   injection hi2 with hi2
   rw [hi2,x2] at y2
   cases y2
 split at he
 ·unfold zq719 at he
  split at he
  ·exact hno (by decide) he
  rename_i i hi
  split at he
  ·exact hok he (zq1275 h (by
    have := List.eraseIdx_sublist ls i
    rwa [List.eraseIdx_eq_take_drop_succ] at this) (zc48 _) h.time (fun x hx => h.upto x (by
    have hs := List.eraseIdx_sublist ls i
    rw [List.eraseIdx_eq_take_drop_succ] at hs
    exact hs.subset hx))) (zc48 _)
  ·exact hno (by decide) he
 ·rename_i k1 k2 k3 k4
  unfold zq726 at he
  split at he
  ·exact hno (by decide) he
  rename_i hn
  have hk := zq856 hf
  exact hok he (zq1275 h List.filter_sublist (by omega) (zq858 hf (by omega)) (fun x hx => (zq1121 hx).2)) (by omega)
end Go.Ma
namespace Go.Ma
open Go
structure StIn (ps : List Pf) (ks : List (List Ad)) (ls : List Ls) : Prop where
 p : rowIn .pfx ps
 len : ks.length = ps.length
 k : ∀ l ∈ ks,rowIn .addr l
 l : rowIn .lease ls
theorem StOk.fit {ps : List Pf} {ks : List (List Ad)} {ls : List Ls} {now : Int} (h : StOk ps ks ls now) : fitS ps ks ls := by
 have h1 := h.plen
 have h2 := h.llen
 refine ⟨by omega,fun i => ?_,by omega⟩
 by_cases hi : i < ps.length
 ·have := h.kept (zc0 hi)
  omega
 ·rw [zc3,zc22 (by rw [h.klen]; omega)]
  simp
theorem zq724 (ps : List Pf) (ks : List (List Ad)) (ls : List Ls) (now : Int) (o : Oq) : (∃ e,e ≠ 0 ∧ doOf ps ks ls now o = errS e) ∨ ∃ ps' ks' ls' now' a,doOf ps ks ls now o = okS ps' ks' ls' now' a := by
 by_cases h : (doOf ps ks ls now o).2.2.1 = 0
 ·right
  generalize doOf ps ks ls now o = y at h ⊢
  obtain ⟨⟨⟨p,k⟩,l,n,_⟩,a,e,_⟩ := y
  simp only at h
  subst h
  exact ⟨p,k,l,n,a,rfl⟩
 ·exact .inl ⟨_,h,zq722 h⟩
end Go.Ma
namespace Go.Ma
open Go
def zq468 (a b : List En) : Bool := decide (a.length ≤ b.length) && decide (a = b.take a.length)
theorem zq962 (a b v3 : List En) (ha : a.length = b.length) (hl : a.length < 9223372036854775808) :
  loopN zq1155 FUEL (((),(),(),(lenL a,()),(0,()),()),(a,v3,b,())) =
   some (if a.drop 0 = b.drop 0 then Sum.inr ((),(a,v3,b,())) else Sum.inl ((((false : Bool),()),()),(a,v3,b,()))) := by
 refine zq1179 (step := zq1155) (fun i => (((),(),(),(lenL a,()),((i : Int),()),()),(a,v3,b,()))) a.length (fun i => some (if a.drop i = b.drop i then Sum.inr ((),(a,v3,b,())) else Sum.inl ((((false : Bool),()),()),(a,v3,b,())))) (fun rec i hi hr => ?_) (fun rec => ?_) FUEL 0 (Nat.zero_le _) (zq865 (by omega))
 ·obtain ⟨e,he⟩ : ∃ e,a[i]? = some e := ⟨_,zc0 hi⟩
  obtain ⟨e',he'⟩ : ∃ e,b[i]? = some e := ⟨_,zc0 (by omega)⟩
  simp only [zq1155,zq1149]
  rw [decide_eq_true (show (i : Int) < lenL a by unfold lenL; omega),zq517,zq1560 (zq910 (by omega) (by unfold lenL; omega)),zq871 he,zq487,zq1560 (zq910 (by omega) (by unfold lenL; omega)),zq871 he',zq487,zq487,zq752,zq728 he,zq728 he']
  by_cases hee : e = e'
  ·rw [decide_eq_true hee,zc10,zq515,show ((i : Int) + 1) = ((i + 1 : Nat) : Int) by omega,zq1560 (zq904 (by omega) (by omega)),hr]
   subst hee
   simp
  ·rw [decide_eq_false hee,zc19,zq517]
   simp [hee]
 ·simp only [zq1155]
  rw [decide_eq_false (show ¬ (a.length : Int) < lenL a by unfold lenL; omega),zq515,zc18 (zc47 _),zc18 (show b.length ≤ a.length by omega)]
  rfl
theorem zq1797 (l : List En) (n : Nat) : subL l 0 (n : Int) = l.take n := by simp [subL]
theorem zq1153 {a b : List En} (hl : a.length < 9223372036854775808) : zq1161 a b = some (zq468 a b,()) := by
 unfold zq1161 zq468
 by_cases h : a.length ≤ b.length
 rotate_left
 ·rw [decide_eq_false (show ¬ lenL a ≤ lenL b by unfold lenL; omega),zq515,decide_eq_false h,Bool.false_and]
 have e1 : subL b 0 (lenL a) = b.take a.length := zq1797 b a.length
 have e2 : (b.take a.length).length = a.length := by rw [zc20]; omega
 rw [decide_eq_true (show lenL a ≤ lenL b by unfold lenL; omega),zq517,zq1560 (by rw [Bool.and_true,decide_eq_true_eq]; exact zq1107 a),e1,decide_eq_true (show lenL a = lenL (b.take a.length) by unfold lenL; rw [e2]),zc10,zq515,zq962 a _ b e2.symm hl,zq487,List.drop_zero,List.drop_zero,decide_eq_true h,Bool.true_and]
 by_cases he : a = b.take a.length
 ·rw [if_pos he,decide_eq_true he]; rfl
 ·rw [if_neg he,decide_eq_false he]; rfl
theorem zq142 {a b : List En} (hl : a.length < 9223372036854775808) : zq144 a b = some (zq468 a b,()) := by
 unfold zq144 zq468
 by_cases h : a.length ≤ b.length
 rotate_left
 ·rw [decide_eq_true (show lenL a > lenL b by unfold lenL; omega),zq517,decide_eq_false h,Bool.false_and]
 have e1 : subL b 0 (lenL a) = b.take a.length := zq1797 b a.length
 rw [decide_eq_false (show ¬ lenL a > lenL b by unfold lenL; omega),zq515,zq1560 (by unfold lenL; simp; omega),e1,zq277 hl,zq487,decide_eq_true h,Bool.true_and]
def zq479 (a b : List En) (m : Int) : List En := (b.drop a.length).take m.toNat
theorem zq1623 {a b : List En} {m : Int} (ha : a.length ≤ 30) (hb : b.length ≤ 30) (h : a.length ≤ b.length) (h0 : 0 ≤ m) (h1 : m ≤ 30) : zq1625 a b m = some (zq479 a b m,()) := by
 unfold zq1625 zq479
 have e0 : minI (lenL b) (lenL a + m) = ((min b.length (a.length + m.toNat) : Nat) : Int) := by
  unfold minI lenL
  split <;> omega
 have e1 : subL b (lenL a) (minI (lenL b) (lenL a + m)) = (b.drop a.length).take m.toNat := by
  rw [e0]
  unfold subL lenL
  rw [zc41,zc41,List.drop_take]
  by_cases hc : b.length ≤ a.length + m.toNat
  ·rw [List.take_of_length_le (by rw [zc40]; omega),List.take_of_length_le (by rw [zc40]; omega)]
  ·congr 1
   omega
 rw [zq1560 (zq904 (by unfold lenL; omega) (by unfold lenL; omega)),zq1560 (by rw [e0]; unfold lenL; simp; omega),e1,zq581 (by rw [zc20,zc40]; omega),zq487]
theorem zq476 {a b : List En} (h : zq468 a b = true) : a.length ≤ b.length := by
 unfold zq468 at h
 simp only [zc4,decide_eq_true_eq] at h
 exact h.1
theorem zq37 {a b : List En} {m : Int} (ha : a.length ≤ 30) (hb : b.length ≤ 30) (h : a.length ≤ b.length) (h0 : 0 ≤ m) (h1 : m ≤ 30) : zq39 a b m = some (zq479 a b m,()) := by
 unfold zq39
 have key : ∀ (N i : Nat),a.length ≤ i → i ≤ b.length → (i : Int) ≤ lenL a + m → b.length - i < N →
   loopN zq31 N (((),(),(m,()),(),((i : Int),()),()),(a,b,(b.drop a.length).take (i - a.length),())) = some (((),()),(a,b,zq479 a b m,())) := by
  intro N
  induction N with
  | zero => intro i _ _ _ hx; omega
  | succ N ih =>
   intro i hi hib him hx
   rw [zq1176]
   simp only [zq31]
   have i0 : i64ok (lenL a + m) = true := zq904 (by unfold lenL; omega) (by unfold lenL; omega)
   rw [i0,zq1562,br_sb,zq487]
   by_cases hc : i < b.length ∧ (i : Int) < lenL a + m
   ·obtain ⟨e,he⟩ : ∃ e,b[i]? = some e := ⟨_,zc0 hc.1⟩
    have hlt : (((b.drop a.length).take (i - a.length)).length : Int) ≤ 30 := by rw [zc20,zc40]; omega
    rw [decide_eq_true (show (i : Int) < lenL b by unfold lenL; omega),cond_true,decide_eq_true hc.2,zq517,zq1560 (zq910 (by omega) (by unfold lenL; omega)),zq871 he,zq487,zq1560 (zq1574 (zq1107 _) (zq1107 _) (by unfold lenL; simp only [zc21,List.length_nil]; omega)),zq1560 (zq904 (by omega) (by omega)),show ((i : Int) + 1) = ((i + 1 : Nat) : Int) by omega]
    have e2 : (b.drop a.length).take (i - a.length) ++ [e] = (b.drop a.length).take (i + 1 - a.length) := by
     rw [show i + 1 - a.length = (i - a.length) + 1 by omega,List.take_add_one,zc39,show a.length + (i - a.length) = i by omega,he]
     rfl
    rw [e2]
    exact ih (i + 1) (by omega) (by omega) (by unfold lenL at hc ⊢; omega) (by omega)
   ·have : (bif decide ((i : Int) < lenL b) then decide ((i : Int) < lenL a + m) else false) = false := by
     by_cases h5 : (i : Int) < lenL b
     ·rw [decide_eq_true h5,cond_true,decide_eq_false]
      intro h6
      exact hc ⟨by unfold lenL at h5; omega,h6⟩
     ·rw [decide_eq_false h5,cond_false]
    rw [this,zq515]
    congr 5
    unfold zq479
    by_cases h5 : i < b.length
    ·have : (i : Int) = lenL a + m := by
      have h6 : ¬ (i : Int) < lenL a + m := fun h6 => hc ⟨h5,h6⟩
      omega
     congr 1
     unfold lenL at this
     omega
    ·rw [List.take_of_length_le (by rw [zc40]; omega),List.take_of_length_le]
     unfold lenL at him
     rw [zc40]
     omega
 have := key FUEL a.length (zc47 _) h (by unfold lenL; omega) (zq865 (by omega))
 rw [Nat.sub_self,List.take_zero] at this
 rw [show lenL a = ((a.length : Nat) : Int) from rfl,this,zq487]
end Go.Ma
namespace Go.Ma
open Go
def stepS (s : StV) (o : Oq) : StV × Ad := (if (doOf s.1.1 s.1.2 s.2.1 s.2.2.1 o).2.2.1 = 0 then (doOf s.1.1 s.1.2 s.2.1 s.2.2.1 o).1 else s,(doOf s.1.1 s.1.2 s.2.1 s.2.2.1 o).2.1)
def zq1557 : StV → List En → StV
 | s,[] => s
 | s,e :: r => zq1557 (stepS s e.op).1 r
def zq1554 : StV → List En → List Ad
 | _,[] => []
 | s,e :: r => (stepS s e.op).2 :: zq1554 (stepS s e.op).1 r
theorem zq1558 : ∀ (l : List En) (s : StV) (e : En),zq1557 s (l ++ [e]) = (stepS (zq1557 s l) e.op).1
 | [],_,_ => rfl
 | x :: r,s,e => zq1558 r _ e
theorem zq1556 : ∀ (l : List En) (s : StV) (e : En),zq1554 s (l ++ [e]) = zq1554 s l ++ [(stepS (zq1557 s l) e.op).2]
 | [],_,_ => rfl
 | x :: r,s,e => by
  show _ :: zq1554 _ (r ++ [e]) = _
  rw [zq1556 r _ e]
  rfl
theorem zq1555 : ∀ (l : List En) (s : StV),(zq1554 s l).length = l.length
 | [],_ => rfl
 | x :: r,s => by simp [zq1554,zq1555 r]
def StOkV (s : StV) : Prop := StOk s.1.1 s.1.2 s.2.1 s.2.2.1
theorem zq1255 : StOkV noSt := zq1692 zq1383 zq981 zq1187 rfl sc0
theorem zq1788 {s : StV} (h : StOkV s) {o : Oq} (ho : o.In) : StOkV (stepS s o).1 := by
 unfold stepS
 simp only
 rcases zq724 s.1.1 s.1.2 s.2.1 s.2.2.1 o with ⟨e,he,h1⟩ | ⟨p,k,l,n,a,h1⟩
 ·rw [h1,if_neg (show ¬ (errS e).2.2.1 = 0 from he)]; exact h
 ·rw [h1,if_pos (show (okS p k l n a).2.2.1 = 0 from rfl)]
  exact (zq723 h ho h1).1
theorem zq1559 : ∀ {l : List En} {s : StV},StOkV s → logIn l → StOkV (zq1557 s l)
 | [],_,h,_ => h
 | e :: r,s,h,hl => by
  show StOkV (zq1557 (stepS s e.op).1 r)
  exact zq1559 (zq1788 h (hl e List.mem_cons_self).2.2) fun x hx => hl x (List.mem_cons_of_mem _ hx)
theorem zq1810 {l : List En} (h : logIn l) (i : Nat) : logIn (l.take i) := fun e he => h e (List.mem_of_mem_take he)
theorem zq1807 {l : List En} {i : Nat} {x : En} (h : l[i]? = some x) : l.take (i + 1) = l.take i ++ [x] := by
 have hi := (zc1.1 h).1
 rw [zc26 hi,(zc1.1 h).2]
abbrev DRp := List En × (Int × Unit) × (Int × Unit) × List Pf × List Ls × List Pf × List Ls × List Ad × List (List Ad) × List (List Ad) × Unit
theorem zq1133 {l : List En} (h : logIn l) (hlen : l.length ≤ 30) : zq1135 l = some (zq1557 noSt l,zq1554 noSt l,()) := by
 unfold zq1135
 have := zq1179 (step := zq1124) (fun i => (((),(),(),(lenL l,()),((i : Int),()),()),((l,(0,()),((zq1557 noSt (l.take i)).2.2.1,()),([] : List Pf),([] : List Ls),(zq1557 noSt (l.take i)).1.1,(zq1557 noSt (l.take i)).2.1,zq1554 noSt (l.take i),([] : List (List Ad)),(zq1557 noSt (l.take i)).1.2,()) : DRp))) l.length
  (fun _ => some (((),(),()),((l,(0,()),((zq1557 noSt l).2.2.1,()),([] : List Pf),([] : List Ls),(zq1557 noSt l).1.1,(zq1557 noSt l).2.1,zq1554 noSt l,([] : List (List Ad)),(zq1557 noSt l).1.2,()) : DRp))) (fun rec i hi hr => ?_) (fun rec => ?_) FUEL 0 (Nat.zero_le _) (zq865 (by omega))
 ·rw [show ((0 : Nat) : Int) = 0 from rfl,List.take_zero] at this
  have this : loopN zq1124 FUEL (((),(),(),(lenL l,()),(0,()),()),(l,(0,()),(0,()),([] : List Pf),([] : List Ls),([] : List Pf),([] : List Ls),([] : List Ad),([] : List (List Ad)),([] : List (List Ad)),())) = _ := this
  rw [this,zq487]
 ·obtain ⟨x,hx⟩ : ∃ e,l[i]? = some e := ⟨_,zc0 hi⟩
  have hok : StOkV (zq1557 noSt (l.take i)) := zq1559 zq1255 (zq1810 h i)
  have hrw := zq1754 hok (h x (zc5 hx)).2.2
  have e1 : zq1557 noSt (l.take (i + 1)) = (stepS (zq1557 noSt (l.take i)) x.op).1 := by rw [zq1807 hx,zq1558]
  have e2 : zq1554 noSt (l.take (i + 1)) = zq1554 noSt (l.take i) ++ [(stepS (zq1557 noSt (l.take i)) x.op).2] := by rw [zq1807 hx,zq1556]
  rw [e1,e2] at hr
  have hal := zq1555 (l.take i) noSt
  generalize zq1557 noSt (l.take i) = s at hrw hr hok ⊢
  generalize zq1554 noSt (l.take i) = out at hr hal ⊢
  have hol : out.length ≤ i := by rw [hal]; simp; omega
  simp only [zq1124]
  rw [decide_eq_true (show (i : Int) < lenL l by unfold lenL; omega),zq517,zq1560 (zq910 (by omega) (by unfold lenL; omega)),zq871 hx,zq487]
  simp only [zq730,zq513]
  rw [hrw,zq487,zq1560 (zq1574 (zq1107 _) (by simp [lenL]) (by unfold lenL; simp; omega)),zq1560 (zq1574 (zq1107 _) (by simp [lenL]) (by unfold lenL; simp; omega)),zq1560 (zq904 (by omega) (by omega)),zq1560 (zq904 (by omega) (by omega)),show ((i : Int) + 1) = ((i + 1 : Nat) : Int) by omega]
  unfold stepS at hr
  simp only at hr
  by_cases h0 : (doOf s.1.1 s.1.2 s.2.1 s.2.2.1 x.op).2.2.1 = 0
  ·simp only [h0,if_true] at hr
   rw [decide_eq_true h0,zq517,hr]
  ·simp only [h0,if_false] at hr
   rw [decide_eq_false h0,zq515,hr]
 ·simp only [zq1124]
  rw [decide_eq_false (show ¬ (l.length : Int) < lenL l by unfold lenL; omega),zq515,List.take_length]
abbrev DRq := List En × Unit × (Int × Unit) × (Int × Unit) × List Ad × List Pf × List Ls × List Pf × List Ls × List (List Ad) × List (List Ad) × Unit
theorem zq236 {l : List En} (h : logIn l) (hlen : l.length ≤ 30) : zq238 l = some (zq1557 noSt l,zq1554 noSt l,()) := by
 unfold zq238
 have := zq1179 (step := zq230) (fun i => (((),(),(),(),((i : Int),()),()),((l,(),(0,()),((zq1557 noSt (l.take i)).2.2.1,()),zq1554 noSt (l.take i),([] : List Pf),([] : List Ls),(zq1557 noSt (l.take i)).1.1,(zq1557 noSt (l.take i)).2.1,([] : List (List Ad)),(zq1557 noSt (l.take i)).1.2,()) : DRq))) l.length
  (fun _ => some (((),(),(),()),((l,(),(0,()),((zq1557 noSt l).2.2.1,()),zq1554 noSt l,([] : List Pf),([] : List Ls),(zq1557 noSt l).1.1,(zq1557 noSt l).2.1,([] : List (List Ad)),(zq1557 noSt l).1.2,()) : DRq))) (fun rec i hi hr => ?_) (fun rec => ?_) FUEL 0 (Nat.zero_le _) (zq865 (by omega))
 ·rw [show ((0 : Nat) : Int) = 0 from rfl,List.take_zero] at this
  have this : loopN zq230 FUEL (((),(),(),(),(0,()),()),(l,(),(0,()),(0,()),([] : List Ad),([] : List Pf),([] : List Ls),([] : List Pf),([] : List Ls),([] : List (List Ad)),([] : List (List Ad)),())) = _ := this
  rw [this,zq487]
 ·obtain ⟨x,hx⟩ : ∃ e,l[i]? = some e := ⟨_,zc0 hi⟩
  have hok : StOkV (zq1557 noSt (l.take i)) := zq1559 zq1255 (zq1810 h i)
  have hrw := zq136 hok (h x (zc5 hx)).2.2
  have e1 : zq1557 noSt (l.take (i + 1)) = (stepS (zq1557 noSt (l.take i)) x.op).1 := by rw [zq1807 hx,zq1558]
  have e2 : zq1554 noSt (l.take (i + 1)) = zq1554 noSt (l.take i) ++ [(stepS (zq1557 noSt (l.take i)) x.op).2] := by rw [zq1807 hx,zq1556]
  rw [e1,e2] at hr
  have hal := zq1555 (l.take i) noSt
  generalize zq1557 noSt (l.take i) = s at hrw hr hok ⊢
  generalize zq1554 noSt (l.take i) = out at hr hal ⊢
  have hol : out.length ≤ i := by rw [hal]; simp; omega
  have r1 : zq908 (i : Int) (lenL l) = true := zq910 (by omega) (by unfold lenL; omega)
  simp only [zq230]
  rw [decide_eq_true (show (i : Int) < lenL l by unfold lenL; omega),zq517,zq1560 r1,zq1560 r1,zq871 hx,zq487]
  simp only [zq730,zq513]
  rw [hrw,zq487,zq1560 (zq1574 (zq1107 _) (by simp [lenL]) (by unfold lenL; simp; omega)),zq1560 (zq1574 (zq1107 _) (by simp [lenL]) (by unfold lenL; simp; omega)),zq1560 (zq904 (by omega) (by omega)),zq1560 (zq904 (by omega) (by omega)),show ((i : Int) + 1) = ((i + 1 : Nat) : Int) by omega]
  unfold stepS at hr
  simp only at hr
  by_cases h0 : (doOf s.1.1 s.1.2 s.2.1 s.2.2.1 x.op).2.2.1 = 0
  ·simp only [h0,if_true] at hr
   rw [decide_eq_true h0,zq517,hr]
  ·simp only [h0,if_false] at hr
   rw [decide_eq_false h0,zq515,hr]
 ·simp only [zq230]
  rw [decide_eq_false (show ¬ (l.length : Int) < lenL l by unfold lenL; omega),zq515,List.take_length]
theorem zq1225 {l : List En} {ep : Int} {o : Oq} (h : (zq1224 l ep o).2.1 = 0) : betw ep 1 999 = true ∧ prevE l l.length ≤ ep ∧ formO o = 0 ∧ l.length ≠ 30 ∧ (zq1224 l ep o).1 = l ++ [⟨lenL l + 1,ep,o⟩] := by
 unfold zq1224 at h ⊢
 split at h
 ·cases h
 rename_i h1
 split at h
 ·cases h
 rename_i h2
 split at h
 ·rename_i h3; exact absurd h h3
 rename_i h3
 split at h
 ·cases h
 rename_i h4
 refine ⟨by simpa using h1,by omega,zc50.1 h3,h4,?_⟩
 rw [if_neg h1,if_neg h2,if_neg h3,if_neg h4]
theorem zq482 (x : Bool) : beqB x x = true := by cases x <;> rfl
def enOk (l : List En) (j : Nat) (e : En) : Prop := e.num = (j : Int) + 1 ∧ betw e.epoch 1 999 = true ∧ prevE l j ≤ e.epoch ∧ formO e.op = 0
theorem zq553 (l : List En) : ∀ (k i : Nat),l.length - i ≤ k → (zq552 (l.drop i) (i : Int) (prevE l i) = 0 ↔ ∀ j e,i ≤ j → l[j]? = some e → enOk l j e)
 | 0,i,hk => by
  rw [zc18 (by omega)]
  refine ⟨fun _ j e hij hj => ?_,fun _ => rfl⟩
  have := (zc1.1 hj).1
  omega
 | k + 1,i,hk => by
  by_cases hi : i < l.length
  rotate_left
  ·rw [zc18 (by omega)]
   refine ⟨fun _ j e hij hj => ?_,fun _ => rfl⟩
   have := (zc1.1 hj).1
   omega
  obtain ⟨x,hx⟩ : ∃ e,l[i]? = some e := ⟨_,zc0 hi⟩
  have ih := zq553 l k (i + 1) (by omega)
  rw [show prevE l (i + 1) = x.epoch by simp only [prevE,hx]] at ih
  rw [zq728 hx,zq552]
  have key : enOk l i x ∧ (∀ j e,i + 1 ≤ j → l[j]? = some e → enOk l j e) ↔ ∀ j e,i ≤ j → l[j]? = some e → enOk l j e := by
   constructor
   ·rintro ⟨h1,h2⟩ j e hij hj
    by_cases hji : j = i
    ·subst hji; rw [hx] at hj; injection hj with hj; subst hj; exact h1
    ·exact h2 j e (by omega) hj
   ·intro h
    exact ⟨h i x (zc47 _) hx,fun j e hij hj => h j e (by omega) hj⟩
  rw [← key]
  by_cases h1 : x.num = (i : Int) + 1
  rotate_left
  ·rw [if_pos h1]; exact ⟨fun h => (by cases h),fun h => absurd h.1.1 h1⟩
  rw [if_neg (fun hh => hh h1)]
  by_cases h2 : betw x.epoch 1 999 = true
  rotate_left
  ·rw [if_pos (by simpa using h2)]; exact ⟨fun h => (by cases h),fun h => absurd h.1.2.1 h2⟩
  rw [if_neg (by simp [h2])]
  by_cases h3 : x.epoch < prevE l i
  ·rw [if_pos h3]; exact ⟨fun h => (by cases h),fun h => absurd h.1.2.2.1 (by omega)⟩
  rw [if_neg h3]
  by_cases h4 : formO x.op = 0
  rotate_left
  ·rw [if_pos h4]; exact ⟨fun h => absurd h h4,fun h => absurd h.1.2.2.2 h4⟩
  rw [if_neg (fun hh => hh h4),show ((i : Int) + 1) = ((i + 1 : Nat) : Int) by omega,ih]
  exact ⟨fun h => ⟨⟨by omega,h2,by omega,h4⟩,h⟩,fun h => h.2⟩
theorem zq554 {l : List En} : zq551 l = 0 ↔ l.length ≤ 30 ∧ ∀ j e,l[j]? = some e → enOk l j e := by
 unfold zq551
 by_cases h : l.length > 30
 ·rw [if_pos h]; exact ⟨fun h => (by cases h),fun h2 => absurd h2.1 (by omega)⟩
 ·rw [if_neg h]
  have := zq553 l l.length 0 (by omega)
  rw [List.drop_zero] at this
  have this : zq552 l 0 0 = 0 ↔ _ := this
  rw [this]
  exact ⟨fun g => ⟨by omega,fun j e hj => g j e (Nat.zero_le _) hj⟩,fun g j e _ hj => g.2 j e hj⟩
theorem zq1464 {l : List En} {n j : Nat} (h : j ≤ n) : prevE (l.take n) j = prevE l j := by
 cases j with
 | zero => rfl
 | succ j => simp only [prevE,zc14,if_pos (show j < n by omega)]
theorem zq557 {l : List En} (h : zq551 l = 0) (n : Nat) : zq551 (l.take n) = 0 := by
 obtain ⟨h1,h2⟩ := zq554.1 h
 refine zq554.2 ⟨by rw [zc20]; omega,fun j e hj => ?_⟩
 rw [zc14] at hj
 split at hj
 ·rename_i hjn
  obtain ⟨g1,g2,g3,g4⟩ := h2 j e hj
  exact ⟨g1,g2,by rw [zq1464 (by omega)]; exact g3,g4⟩
 ·cases hj
theorem zq471 {l : List En} {n m : Nat} (h : n ≤ m) (hm : m ≤ l.length) : zq468 (l.take n) (l.take m) = true := by
 unfold zq468
 rw [zc20,zc20,Nat.min_eq_left (by omega),Nat.min_eq_left hm,decide_eq_true h,List.take_take,Nat.min_eq_left h]
 simp
end Go.Ma
namespace Go.Ma
open Go
theorem zq1463 {l m : List En} {j : Nat} (h : j ≤ l.length) : prevE (l ++ m) j = prevE l j := by
 cases j with
 | zero => rfl
 | succ j => simp only [prevE]; rw [zc6 (by omega)]
theorem zq1226 {l : List En} (hc : zq551 l = 0) {ep : Int} {o : Oq} (h : (zq1224 l ep o).2.1 = 0) : zq551 (l ++ [⟨lenL l + 1,ep,o⟩]) = 0 := by
 obtain ⟨m1,m2,m3,m4,_⟩ := zq1225 h
 obtain ⟨c1,c2⟩ := zq554.1 hc
 refine zq554.2 ⟨by simp; omega,fun j e hj => ?_⟩
 by_cases hjl : j < l.length
 ·rw [zc6 hjl] at hj
  obtain ⟨g1,g2,g3,g4⟩ := c2 j e hj
  exact ⟨g1,g2,by rw [zq1463 (by omega)]; exact g3,g4⟩
 ·have hlt := (zc1.1 hj).1
  have : j = l.length := by simp at hlt; omega
  subst this
  rw [List.getElem?_append_right (zc47 _),Nat.sub_self] at hj
  simp only [zc13,zc2] at hj
  subst hj
  exact ⟨rfl,m1,by rw [zq1463 (zc47 _)]; exact m2,m3⟩
theorem zq469 (l m : List En) : zq468 l (l ++ m) = true := by
 unfold zq468
 rw [decide_eq_true (show l.length ≤ (l ++ m).length by simp),List.take_left]
 simp
theorem zq473 {a b : List En} (h : zq468 a b = true) : a = b.take a.length := by
 unfold zq468 at h
 rw [zc4] at h
 exact of_decide_eq_true h.2
theorem zq480 (l : List En) (k : Nat) (hk : k ≤ l.length) (m : Nat) : zq479 (l.take k) l (m : Int) = (l.drop k).take m ∧ l.take k ++ (l.drop k).take m = l.take (k + m) := by
 unfold zq479
 rw [zc20,Nat.min_eq_left hk,zc41]
 refine ⟨rfl,?_⟩
 rw [List.take_add]
theorem zq1855 {ep h u : Int} {l : List En} {o : Oq} (hc : zq549 ep h u l = 0) (hm : (zq1224 l ep o).2.1 = 0) : zq549 ep h u (l ++ [⟨lenL l + 1,ep,o⟩]) = 0 := by
 obtain ⟨h1,h2,h3,h4,h5,h6⟩ := zq550 hc
 unfold zq549
 rw [if_neg,if_neg,if_neg (fun h => h (zq1226 h5 hm)),if_neg]
 ·rw [List.any_append,h6]; simp
 ·rintro (⟨g,g2⟩ | ⟨g,g2⟩) <;> omega
 ·simp only [not_or,Bool.not_eq_false,zq485]
  omega
theorem zq455 {l : List En} (h : logIn l) {n ep : Int} (hn : i64In n) (he : i64In ep) {o : Oq} (ho : o.In) : logIn (l ++ [⟨n,ep,o⟩]) := fun e hm => by
 rcases zc36.1 hm with hm | hm
 ·exact h e hm
 ·simp only [List.mem_singleton] at hm
  subst hm
  exact ⟨hn,he,ho⟩
end Go.Ma
namespace Go.Ma
open Go
abbrev CluV := Int × Int × Int × Int × List En × (List Int × List (List En)) × Unit
def zq563 (ep : Int) (l : List En) (e : Int) (c : List En) : Int := if betw e 0 ep = false then 3 else if zq551 c ≠ 0 then zq551 c else if zq468 c l = false then 4 else 0
def chkN (ep h : Int) (l : List En) (a b : Int) (x y : List En) : Int :=
 if zq563 ep l a x ≠ 0 then zq563 ep l a x else if zq563 ep l b y ≠ 0 then zq563 ep l b y else if a ≠ 0 ∧ a = b then 4 else if a ≠ 0 ∧ a = ep ∧ h ≠ 1 then 4 else if b ≠ 0 ∧ b = ep ∧ h ≠ 2 then 4 else 0
def chkC (now ep h u : Int) (l : List En) (es : List Int) (cs : List (List En)) : Int :=
 if betw now 0 9999 = false then 3 else if zq549 ep h u l ≠ 0 then zq549 ep h u l else
 match es with
 | [a,b] => chkN ep h l a b (cs.getD 0 []) (cs.getD 1 [])
 | _ => 1
theorem zq657 (x a b : Int) : zq659 x a b = some (betw x a b,()) := by
 unfold zq659
 rw [br_sb,zq487,zq484]
theorem zq556 {c : List En} (h : zq551 c = 0) : c.length < 9223372036854775808 := by
 have := zq555 h; omega
theorem zq651 (now ep h u : Int) (l : List En) (ns : List Int × List (List En)) (e : Int) {c : List En} (hc : logIn c) : zq653 now ep h u l ns e c = some (zq563 ep l e c,()) := by
 unfold zq653 zq563
 rw [zq657,zq487,zq1142 hc,zq487]
 cases betw e 0 ep
 ·rfl
 simp only [zc10,zq515,Bool.true_eq_false,if_false]
 by_cases h0 : zq551 c = 0
 rotate_left
 ·rw [decide_eq_false h0,zc19,zq517,if_pos h0]
 rw [decide_eq_true h0,zc10,zq515,if_neg (fun hh => hh h0),zq1153 (zq556 h0),zq487]
 cases zq468 c l <;> rfl
theorem zq1168 {cs : List (List En)} (h : ∀ c ∈ cs,logIn c) (i : Nat) : logIn (cs.getD i []) := by
 rw [zc3]
 cases hi : cs[i]? with
 | none => exact fun e he => by cases he
 | some c => exact h c (zc5 hi)
theorem g20 (a b : Int) : geti [a,b] 0 = some a := rfl
theorem g21 (a b : Int) : geti [a,b] 1 = some b := rfl
theorem gl0 (cs : List (List En)) : getL cs 0 = cs.getD 0 [] := rfl
theorem gl1 (cs : List (List En)) : getL cs 1 = cs.getD 1 [] := rfl
theorem dL0 (a b : Int) : decide ((0 : Int) < lenL [a,b]) = true := rfl
theorem dL1 (a b : Int) : decide ((1 : Int) < lenL [a,b]) = true := rfl
theorem dL2 (a b : Int) : decide ((2 : Int) < lenL [a,b]) = false := rfl
theorem iL0 (a b : Int) : zq908 0 (lenL [a,b]) = true := rfl
theorem iL1 (a b : Int) : zq908 1 (lenL [a,b]) = true := rfl
theorem d02 : decide ((0 : Int) < 2) = true := rfl
theorem d12 : decide ((1 : Int) < 2) = true := rfl
theorem d22 : decide ((2 : Int) < 2) = false := rfl
theorem e01 : (0 : Int) + 1 = 1 := rfl
theorem e11 : (1 : Int) + 1 = 2 := rfl
theorem ok1 : i64ok 1 = true := rfl
theorem ok2 : i64ok 2 = true := rfl
theorem fuel3 : ∃ N,FUEL = N + 3 := ⟨FUEL - 3,by unfold FUEL; rfl⟩
section
variable {now ep h u : Int} {l : List En} {cs : List (List En)}
abbrev DC := List En × List (List En) × List Int × (Int × Int × Int × Int × Unit) × Unit
theorem zq576 (hl : ∀ c ∈ cs,logIn c) (a b : Int) : loopN zq594 FUEL (((),(),(lenL [a,b],()),(0,()),()),((l,cs,[a,b],(now,ep,h,u,()),()) : DC)) =
  some (if zq563 ep l a (cs.getD 0 []) ≠ 0 then Sum.inl (((zq563 ep l a (cs.getD 0 []),()),()),(l,cs,[a,b],())) else if zq563 ep l b (cs.getD 1 []) ≠ 0 then Sum.inl (((zq563 ep l b (cs.getD 1 []),()),()),(l,cs,[a,b],())) else Sum.inr (((),()),((l,cs,[a,b],(now,ep,h,u,()),()) : DC))) := by
 obtain ⟨N,hN⟩ := fuel3
 have hx : logIn (cs.getD 0 []) := zq1168 hl 0
 have hy : logIn (cs.getD 1 []) := zq1168 hl 1
 rw [hN,zq1176]
 simp only [zq594,dL0,d02,zq517,iL0,zq1562,g20,zq487,gl0,zq651 now ep h u l _ a hx,e01,ok1]
 by_cases h1 : zq563 ep l a (cs.getD 0 []) = 0
 rotate_left
 ·rw [decide_eq_false h1,zc19,zq517,if_pos h1]
 rw [decide_eq_true h1,zc10,zq515,if_neg (fun hh => hh h1),zq1176]
 simp only [zq594,dL1,d12,zq517,iL1,zq1562,g21,zq487,gl1,zq651 now ep h u l _ b hy,e11,ok2]
 by_cases h2 : zq563 ep l b (cs.getD 1 []) = 0
 rotate_left
 ·rw [decide_eq_false h2,zc19,zq517,if_pos h2]
 rw [decide_eq_true h2,zc10,zq515,if_neg (fun hh => hh h2),zq1176]
 simp only [zq594,dL2,d22,zq515]
theorem zq575 (a b : Int) : loopN zq591 FUEL (((),(),(lenL [a,b],()),(0,()),()),((l,cs,[a,b],(now,ep,h,u,()),()) : DC)) =
  some (if a ≠ 0 ∧ a = ep ∧ h ≠ 1 then Sum.inl (((4,()),()),(l,cs,[a,b],())) else if b ≠ 0 ∧ b = ep ∧ h ≠ 2 then Sum.inl (((4,()),()),(l,cs,[a,b],())) else Sum.inr ((),(l,cs,[a,b],()))) := by
 obtain ⟨N,hN⟩ := fuel3
 have key2 : ∀ {X : Type} (x k : Int) (f : Bool → Option X),(br (!decide (x = 0)) (some (decide (x = ep))) (some false)).bind (fun c2 => (br c2 (some (!decide (h = k))) (some false)).bind f) = f (decide (x ≠ 0 ∧ x = ep ∧ h ≠ k)) := by
  intro X x k f
  have e1 : decide (x ≠ 0 ∧ x = ep ∧ h ≠ k) = (!decide (x = 0) && (decide (x = ep) && !decide (h = k))) := by
   rw [Bool.decide_and,Bool.decide_and,decide_not,decide_not]
  rw [e1]
  cases decide (x = 0) <;> cases decide (x = ep) <;> cases decide (h = k) <;> rfl
 rw [hN,zq1176]
 simp only [zq591,dL0,d02,zq517,iL0,zq1562,g20,zq487,e01,ok1,key2]
 by_cases h1 : a ≠ 0 ∧ a = ep ∧ h ≠ 1
 ·rw [decide_eq_true h1,zq517,if_pos h1]
 rw [decide_eq_false h1,zq515,if_neg h1,zq1176]
 simp only [zq591,dL1,d12,zq517,iL1,zq1562,g21,zq487,e11,ok2,key2]
 by_cases h2 : b ≠ 0 ∧ b = ep ∧ h ≠ 2
 ·rw [decide_eq_true h2,zq517,if_pos h2]
 rw [decide_eq_false h2,zq515,if_neg h2,zq1176]
 simp only [zq591,dL2,d22,zq515]
theorem zq1516 (hl : ∀ c ∈ cs,logIn c) (a b : Int) : loopN zq61 FUEL (((),(0,()),()),((l,cs,[a,b],(now,ep,h,u,()),()) : DC)) =
  some (if zq563 ep l a (cs.getD 0 []) ≠ 0 then Sum.inl (((zq563 ep l a (cs.getD 0 []),()),()),(l,cs,[a,b],())) else if zq563 ep l b (cs.getD 1 []) ≠ 0 then Sum.inl (((zq563 ep l b (cs.getD 1 []),()),()),(l,cs,[a,b],())) else Sum.inr (((),()),((l,cs,[a,b],(now,ep,h,u,()),()) : DC))) := by
 obtain ⟨N,hN⟩ := fuel3
 have key : ∀ {X : Type} (e : Int) (c : List En) (_ : logIn c) (f : Int → Option X) (g : Option X),(br (!betw e 0 ep) (f 3) ((zq93 c).bind fun y4 => br (!decide (y4.1 = 0)) (f y4.1) ((zq144 c l).bind fun y6 => br (!y6.1) (f 4) g))) = if zq563 ep l e c ≠ 0 then f (zq563 ep l e c) else g := by
  intro X e c hc f g
  unfold zq563
  rw [zq91 hc,zq487]
  cases betw e 0 ep
  ·rfl
  simp only [zc10,zq515,Bool.true_eq_false,if_false]
  by_cases h0 : zq551 c = 0
  rotate_left
  ·rw [decide_eq_false h0,zc19,zq517,if_pos h0,if_pos h0]
  simp only [h0,decide_true,zc10,zq515,ne_eq,not_true_eq_false,if_false]
  rw [zq142 (zq556 h0),zq487]
  cases zq468 c l <;> rfl
 have hx : logIn (cs.getD 0 []) := zq1168 hl 0
 have hy : logIn (cs.getD 1 []) := zq1168 hl 1
 rw [hN,zq1176]
 simp only [zq61,dL0,d02,zq517,iL0,zq1562,g20,zq487,gl0,zq307,e01,ok1]
 rw [key a _ hx (fun e => some (Sum.inl (((e,()),()),(l,cs,[a,b],()))))]
 by_cases h1 : zq563 ep l a (cs.getD 0 []) = 0
 rotate_left
 ·rw [if_pos h1,if_pos h1]
 rw [if_neg (fun hh => hh h1),if_neg (fun hh => hh h1),zq1176]
 simp only [zq61,dL1,d12,zq517,iL1,zq1562,g21,zq487,gl1,zq307,e11,ok2]
 rw [key b _ hy (fun e => some (Sum.inl (((e,()),()),(l,cs,[a,b],()))))]
 by_cases h2 : zq563 ep l b (cs.getD 1 []) = 0
 rotate_left
 ·rw [if_pos h2,if_pos h2]
 rw [if_neg (fun hh => hh h2),if_neg (fun hh => hh h2),zq1176]
 simp only [zq61,dL2,d22,zq515]
theorem zq1515 (a b : Int) : loopN zq58 FUEL (((),(0,()),()),((l,cs,[a,b],(now,ep,h,u,()),()) : DC)) =
  some (if a ≠ 0 ∧ a = ep ∧ h ≠ 1 then Sum.inl (((4,()),()),(l,cs,[a,b],())) else if b ≠ 0 ∧ b = ep ∧ h ≠ 2 then Sum.inl (((4,()),()),(l,cs,[a,b],())) else Sum.inr ((),(l,cs,[a,b],()))) := by
 obtain ⟨N,hN⟩ := fuel3
 have key2 : ∀ {X : Type} (x k : Int) (f : Bool → Option X),(br (!decide (x = 0)) (some (decide (x = ep))) (some false)).bind (fun c2 => (br c2 (some (!decide (h = k))) (some false)).bind f) = f (decide (x ≠ 0 ∧ x = ep ∧ h ≠ k)) := by
  intro X x k f
  have e1 : decide (x ≠ 0 ∧ x = ep ∧ h ≠ k) = (!decide (x = 0) && (decide (x = ep) && !decide (h = k))) := by
   rw [Bool.decide_and,Bool.decide_and,decide_not,decide_not]
  rw [e1]
  cases decide (x = 0) <;> cases decide (x = ep) <;> cases decide (h = k) <;> rfl
 rw [hN,zq1176]
 simp only [zq58,dL0,d02,zq517,iL0,zq1562,g20,zq487,e01,ok1,key2]
 by_cases h1 : a ≠ 0 ∧ a = ep ∧ h ≠ 1
 ·rw [decide_eq_true h1,zq517,if_pos h1]
 rw [decide_eq_false h1,zq515,if_neg h1,zq1176]
 simp only [zq58,dL1,d12,zq517,iL1,zq1562,g21,zq487,e11,ok2,key2]
 by_cases h2 : b ≠ 0 ∧ b = ep ∧ h ≠ 2
 ·rw [decide_eq_true h2,zq517,if_pos h2]
 rw [decide_eq_false h2,zq515,if_neg h2,zq1176]
 simp only [zq58,dL2,d22,zq515]
end
theorem zq1821 {es : List Int} (h : lenL es = 2) : ∃ a b,es = [a,b] := by
 match es,h with
 | [],h => cases h
 | [_],h => cases h
 | [a,b],_ => exact ⟨a,b,rfl⟩
 | _ :: _ :: _ :: _,h => simp [lenL] at h; omega
theorem zq547 {now ep h u : Int} {l : List En} {es : List Int} {cs : List (List En)} (h1 : betw now 0 9999 = true) (h2 : zq549 ep h u l = 0) (h3 : ¬ lenL es = 2) : chkC now ep h u l es cs = 1 := by
 unfold chkC
 rw [h1,if_neg (by simp),if_neg (fun hh => hh h2)]
 split
 ·exact absurd rfl h3
 ·rfl
theorem zq600 (now ep h u : Int) {l : List En} (hl : logIn l) (es : List Int) {cs : List (List En)} (hc : ∀ c ∈ cs,logIn c) : zq602 now ep h u l (es,cs) = some (chkC now ep h u l es cs,()) := by
 unfold zq602
 rw [zq657,zq487,zq770 ep h u hl,zq487]
 cases hb : betw now 0 9999
 ·unfold chkC; rw [hb,if_pos rfl]; rfl
 simp only [zc10,zq515]
 by_cases h2 : zq549 ep h u l = 0
 rotate_left
 ·rw [decide_eq_false h2,zc19,zq517]; unfold chkC; rw [hb,if_neg (by simp),if_pos h2]
 rw [decide_eq_true h2,zc10,zq515]
 by_cases h3 : lenL es = 2
 rotate_left
 ·rw [decide_eq_false h3,zc19,zq517,zq547 hb h2 h3]
 obtain ⟨a,b,rfl⟩ := zq1821 h3
 have e0 : chkC now ep h u l [a,b] cs = chkN ep h l a b (cs.getD 0 []) (cs.getD 1 []) := by unfold chkC; rw [hb,if_neg (by simp),if_neg (fun hh => hh h2)]
 rw [decide_eq_true h3,zc10,zq515,zq576 hc,zq487,e0]
 unfold chkN
 by_cases h4 : zq563 ep l a (cs.getD 0 []) = 0
 rotate_left
 ·rw [if_pos h4,if_pos h4]; rfl
 have n4 : ¬ zq563 ep l a (cs.getD 0 []) ≠ 0 := fun hh => hh h4
 rw [if_neg n4,if_neg n4]
 by_cases h5 : zq563 ep l b (cs.getD 1 []) = 0
 rotate_left
 ·rw [if_pos h5,if_pos h5]; rfl
 have n5 : ¬ zq563 ep l b (cs.getD 1 []) ≠ 0 := fun hh => hh h5
 rw [if_neg n5,if_neg n5]
 simp only [sumC,iL0,iL1,zq1562,g20,g21,zq487]
 have key : ∀ {X : Type} (f : Bool → Option X),(br (!decide (a = 0)) (some (decide (a = b))) (some false)).bind f = f (decide (a ≠ 0 ∧ a = b)) := by
  intro X f
  have e1 : decide (a ≠ 0 ∧ a = b) = (!decide (a = 0) && decide (a = b)) := by rw [Bool.decide_and,decide_not]
  rw [e1]
  cases decide (a = 0) <;> cases decide (a = b) <;> rfl
 rw [key]
 by_cases h6 : a ≠ 0 ∧ a = b
 ·rw [decide_eq_true h6,zq517,if_pos h6]
 rw [decide_eq_false h6,zq515,if_neg h6,zq575,zq487]
 by_cases h7 : a ≠ 0 ∧ a = ep ∧ h ≠ 1
 ·rw [if_pos h7,if_pos h7]
 rw [if_neg h7,if_neg h7]
 by_cases h8 : b ≠ 0 ∧ b = ep ∧ h ≠ 2
 ·rw [if_pos h8,if_pos h8]
 rw [if_neg h8,if_neg h8]
theorem zq67 (now ep h u : Int) {l : List En} (hl : logIn l) (hlen : l.length < 9223372036854775808) (es : List Int) {cs : List (List En)} (hc : ∀ c ∈ cs,logIn c) : zq69 now ep h u l (es,cs) = some (chkC now ep h u l es cs,()) := by
 unfold zq69
 rw [zq307,zq487,zq76 ep h u hl hlen,zq487]
 cases hb : betw now 0 9999
 ·unfold chkC; rw [hb,if_pos rfl]; rfl
 simp only [zc10,zq515]
 by_cases h2 : zq549 ep h u l = 0
 rotate_left
 ·rw [decide_eq_false h2,zc19,zq517]; unfold chkC; rw [hb,if_neg (by simp),if_pos h2]
 rw [decide_eq_true h2,zc10,zq515]
 by_cases h3 : lenL es = 2
 rotate_left
 ·rw [decide_eq_false h3,zc19,zq517,zq547 hb h2 h3]
 obtain ⟨a,b,rfl⟩ := zq1821 h3
 have e0 : chkC now ep h u l [a,b] cs = chkN ep h l a b (cs.getD 0 []) (cs.getD 1 []) := by unfold chkC; rw [hb,if_neg (by simp),if_neg (fun hh => hh h2)]
 rw [decide_eq_true h3,zc10,zq515,zq1516 hc,zq487,e0]
 unfold chkN
 by_cases h4 : zq563 ep l a (cs.getD 0 []) = 0
 rotate_left
 ·rw [if_pos h4,if_pos h4]; rfl
 have n4 : ¬ zq563 ep l a (cs.getD 0 []) ≠ 0 := fun hh => hh h4
 rw [if_neg n4,if_neg n4]
 by_cases h5 : zq563 ep l b (cs.getD 1 []) = 0
 rotate_left
 ·rw [if_pos h5,if_pos h5]; rfl
 have n5 : ¬ zq563 ep l b (cs.getD 1 []) ≠ 0 := fun hh => hh h5
 rw [if_neg n5,if_neg n5]
 simp only [sumC,iL0,iL1,zq1562,g20,g21,zq487]
 have key : ∀ {X : Type} (f : Bool → Option X),(br (decide (a = b)) (some (!decide (a = 0))) (some false)).bind f = f (decide (a ≠ 0 ∧ a = b)) := by
  intro X f
  have e1 : decide (a ≠ 0 ∧ a = b) = (!decide (a = 0) && decide (a = b)) := by rw [Bool.decide_and,decide_not]
  rw [e1]
  cases decide (a = 0) <;> cases decide (a = b) <;> rfl
 rw [key]
 by_cases h6 : a ≠ 0 ∧ a = b
 ·rw [decide_eq_true h6,zq517,if_pos h6]
 rw [decide_eq_false h6,zq515,if_neg h6,zq1515,zq487]
 by_cases h7 : a ≠ 0 ∧ a = ep ∧ h ≠ 1
 ·rw [if_pos h7,if_pos h7]
 rw [if_neg h7,if_neg h7]
 by_cases h8 : b ≠ 0 ∧ b = ep ∧ h ≠ 2
 ·rw [if_pos h8,if_pos h8]
 rw [if_neg h8,if_neg h8]
def evF (k k1 k3 k4 w0 n0 o0 w n30 nt : Bool) : Int :=
 bif !k then 7 else bif (k1 && !w0) || (!k1 && !k4 && !n0) || (!k3 && !o0) then 1 else bif (!k1 && !w) || (k4 && !n30) || (k1 && !nt) then 3 else 0
def noOq : Oq := ⟨0,⟨⟨false,0,0⟩,0⟩,⟨false,0,0⟩,ByteArray.empty,0,0⟩
def formE (now : Int) (x : Ev) : Int := evF (betw x.kind 1 5) (decide (x.kind = 1)) (decide (x.kind = 3)) (decide (x.kind = 4)) (decide (x.who = 0)) (decide (x.n = 0)) (eqOq x.op noOq) (betw x.who 1 2) (betw x.n 0 30) (betw x.n 0 (9999 - now))
theorem zq645 {now : Int} (h0 : 0 ≤ now) (h1 : now ≤ 9999) (x : Ev) : zq647 now x = some (formE now x,()) := by
 have hr : i64ok (9999 - now) = true := zq904 (by omega) (by omega)
 unfold zq647 formE
 simp only [zq657,zq487,hr,zq1562]
 rw [show (⟨0,⟨⟨false,0,0⟩,0⟩,⟨false,0,0⟩,ByteArray.empty,0,0⟩ : Oq) = noOq from rfl]
 generalize betw x.kind 1 5 = k
 generalize decide (x.kind = 1) = k1
 generalize decide (x.kind = 3) = k3
 generalize decide (x.kind = 4) = k4
 generalize decide (x.who = 0) = w0
 generalize decide (x.n = 0) = n0
 generalize eqOq x.op noOq = o0
 generalize betw x.who 1 2 = w
 generalize betw x.n 0 30 = n30
 generalize betw x.n 0 (9999 - now) = nt
 clear hr
 revert k k1 k3 k4 w0 n0 o0 w n30 nt
 decide +kernel
theorem zq1355 (n m : Int) : (br (decide (n < 0)) (some true) (some (decide (n > m)))) = some (!betw n 0 m) := by
 unfold betw
 by_cases h1 : n < 0
 ·rw [decide_eq_true h1,zq517,decide_eq_false (show ¬ 0 ≤ n by omega)]; rfl
 ·rw [decide_eq_false h1,zq515,decide_eq_true (show 0 ≤ n by omega),Bool.true_and]
  by_cases h2 : n > m
  ·rw [decide_eq_true h2,decide_eq_false (show ¬ n ≤ m by omega)]; rfl
  ·rw [decide_eq_false h2,decide_eq_true (show n ≤ m by omega)]; rfl
theorem zq82 {now : Int} (h0 : 0 ≤ now) (h1 : now ≤ 9999) (x : Ev) : zq84 now x = some (formE now x,()) := by
 have hr : i64ok (9999 - now) = true := zq904 (by omega) (by omega)
 unfold zq84 formE
 simp only [zq307,zq487,hr,zq1562,zq1355]
 rw [show (⟨0,⟨⟨false,0,0⟩,0⟩,⟨false,0,0⟩,ByteArray.empty,0,0⟩ : Oq) = noOq from rfl]
 generalize betw x.kind 1 5 = k
 generalize decide (x.kind = 1) = k1
 generalize decide (x.kind = 3) = k3
 generalize decide (x.kind = 4) = k4
 generalize decide (x.who = 0) = w0
 generalize decide (x.n = 0) = n0
 generalize eqOq x.op noOq = o0
 generalize betw x.who 1 2 = w
 generalize betw x.n 0 30 = n30
 generalize betw x.n 0 (9999 - now) = nt
 clear hr
 revert k k1 k3 k4 w0 n0 o0 w n30 nt
 decide +kernel
end Go.Ma
namespace Go.Ma
open Go
structure COk (now ep h u : Int) (l : List En) (a b : Int) (x y : List En) : Prop where
 time : 0 ≤ now ∧ now ≤ 9999
 disk : zq549 ep h u l = 0
 n1 : zq563 ep l a x = 0
 n2 : zq563 ep l b y = 0
 ne : ¬ (a ≠ 0 ∧ a = b)
 o1 : ¬ (a ≠ 0 ∧ a = ep ∧ h ≠ 1)
 o2 : ¬ (b ≠ 0 ∧ b = ep ∧ h ≠ 2)
theorem zq546 {now ep h u : Int} {l : List En} {a b : Int} {x y : List En} : chkC now ep h u l [a,b] [x,y] = 0 ↔ COk now ep h u l a b x y := by
 have e0 : ([x,y] : List (List En)).getD 0 [] = x := rfl
 have e1 : ([x,y] : List (List En)).getD 1 [] = y := rfl
 unfold chkC chkN
 simp only [e0,e1]
 cases hb : betw now 0 9999
 ·rw [if_pos rfl]
  exact ⟨(fun hh => by cases hh),fun hh => by rw [zq485.2 hh.time] at hb; cases hb⟩
 rw [if_neg (by simp)]
 by_cases h2 : zq549 ep h u l = 0
 rotate_left
 ·rw [if_pos h2]; exact ⟨fun hh => absurd hh h2,fun hh => absurd hh.disk h2⟩
 rw [if_neg (fun hh => hh h2)]
 by_cases h3 : zq563 ep l a x = 0
 rotate_left
 ·rw [if_pos h3]; exact ⟨fun hh => absurd hh h3,fun hh => absurd hh.n1 h3⟩
 rw [if_neg (fun hh => hh h3)]
 by_cases h4 : zq563 ep l b y = 0
 rotate_left
 ·rw [if_pos h4]; exact ⟨fun hh => absurd hh h4,fun hh => absurd hh.n2 h4⟩
 rw [if_neg (fun hh => hh h4)]
 by_cases h5 : a ≠ 0 ∧ a = b
 ·rw [if_pos h5]; exact ⟨(fun hh => by cases hh),fun hh => absurd h5 hh.ne⟩
 rw [if_neg h5]
 by_cases h6 : a ≠ 0 ∧ a = ep ∧ h ≠ 1
 ·rw [if_pos h6]; exact ⟨(fun hh => by cases hh),fun hh => absurd h6 hh.o1⟩
 rw [if_neg h6]
 by_cases h7 : b ≠ 0 ∧ b = ep ∧ h ≠ 2
 ·rw [if_pos h7]; exact ⟨(fun hh => by cases hh),fun hh => absurd h7 hh.o2⟩
 rw [if_neg h7]
 exact ⟨fun _ => ⟨zq485.1 hb,h2,h3,h4,h5,h6,h7⟩,fun _ => rfl⟩
theorem zq548 {now ep h u : Int} {l : List En} {es : List Int} {cs : List (List En)} (hlen : cs.length = es.length) (hc : chkC now ep h u l es cs = 0) : ∃ a b x y,es = [a,b] ∧ cs = [x,y] ∧ COk now ep h u l a b x y := by
 have h2 : lenL es = 2 := by
  by_cases hb : betw now 0 9999 = true
  ·by_cases hd : zq549 ep h u l = 0
   ·by_cases h3 : lenL es = 2
    ·exact h3
    ·rw [zq547 hb hd h3] at hc; cases hc
   ·unfold chkC at hc; rw [if_neg (by simp [hb]),if_pos hd] at hc; exact absurd hc hd
  ·unfold chkC at hc; rw [if_pos (by simpa using hb)] at hc; cases hc
 obtain ⟨a,b,rfl⟩ := zq1821 h2
 match cs,hlen with
 | [x,y],_ => exact ⟨a,b,x,y,rfl,rfl,zq546.1 hc⟩
theorem zq1257 {ep : Int} {l : List En} {e : Int} {c : List En} (h : zq563 ep l e c = 0) : 0 ≤ e ∧ e ≤ ep ∧ zq551 c = 0 ∧ zq468 c l = true := by
 unfold zq563 at h
 cases hb : betw e 0 ep
 ·rw [hb,if_pos rfl] at h; cases h
 rw [hb,if_neg (by simp)] at h
 by_cases h1 : zq551 c = 0
 rotate_left
 ·rw [if_pos h1] at h; exact absurd h h1
 rw [if_neg (fun hh => hh h1)] at h
 cases hg : zq468 c l
 ·rw [hg,if_pos rfl] at h; cases h
 obtain ⟨g1,g2⟩ := zq485.1 hb
 exact ⟨g1,g2,h1,rfl⟩
theorem zq853 {now : Int} {x : Ev} (h : formE now x = 0) : betw x.kind 1 5 = true ∧ (x.kind = 1 → x.who = 0 ∧ 0 ≤ x.n ∧ x.n ≤ 9999 - now) ∧ (x.kind ≠ 1 → x.who = 1 ∨ x.who = 2) ∧ (x.kind = 4 → 0 ≤ x.n ∧ x.n ≤ 30) ∧ (x.kind ≠ 1 → x.kind ≠ 4 → x.n = 0) := by
 unfold formE evF at h
 cases hk : betw x.kind 1 5
 ·rw [hk] at h; cases h
 rw [hk] at h
 simp only [zc10,cond_false] at h
 cases h1 : ((decide (x.kind = 1) && !decide (x.who = 0)) || (!decide (x.kind = 1) && !decide (x.kind = 4) && !decide (x.n = 0)) || (!decide (x.kind = 3) && !eqOq x.op noOq))
 rotate_left
 ·rw [h1] at h; cases h
 rw [h1,cond_false] at h
 cases h2 : ((!decide (x.kind = 1) && !betw x.who 1 2) || (decide (x.kind = 4) && !betw x.n 0 30) || (decide (x.kind = 1) && !betw x.n 0 (9999 - now)))
 rotate_left
 ·rw [h2] at h; cases h
 simp only [Bool.or_eq_false_iff,Bool.and_eq_false_iff,Bool.not_eq_false',decide_eq_false_iff_not,decide_eq_true_eq] at h1 h2
 obtain ⟨⟨a1,a2⟩,_⟩ := h1
 obtain ⟨⟨b1,b2⟩,b3⟩ := h2
 refine ⟨rfl,fun k => ?_,fun k => ?_,fun k => ?_,fun k k4 => ?_⟩
 ·have c1 := a1.resolve_left (fun hh => hh k)
  have c2 := zq485.1 (b3.resolve_left (fun hh => hh k))
  exact ⟨c1,c2⟩
 ·have c1 := zq485.1 (b1.resolve_left k)
  omega
 ·exact zq485.1 (b2.resolve_left (fun hh => hh k))
 ·rcases a2 with (a2 | a2) | a2
  ·exact absurd a2 k
  ·exact absurd a2 k4
  ·exact a2
def noCl : CluV := (0,0,0,0,[],([],[]),())
def mkCl (now : Int) (d : Dk) (a b : Int) (x y : List En) : CluV := (now,d.1,d.2.1,d.2.2.1,d.2.2.2.1,([a,b],[x,y]),())
def evDo (now ep h u : Int) (l : List En) (a b : Int) (x y : List En) (e : Ev) : CluV × Bool :=
 if e.kind = 1 then (mkCl (now + e.n) (ep,h,u,l,()) a b x y,true)
 else if e.kind = 2 then
  if (acqOf ep h u l e.who now).2.1 = 0 then (mkCl now (acqOf ep h u l e.who now).1 (if e.who = 1 then (acqOf ep h u l e.who now).1.1 else a) (if e.who = 1 then b else (acqOf ep h u l e.who now).1.1) x y,true)
  else (mkCl now (ep,h,u,l,()) a b x y,false)
 else if e.kind = 3 then
  if (putOf ep h u l (if e.who = 1 then a else b) e.op).2.1 = 0 then (mkCl now (putOf ep h u l (if e.who = 1 then a else b) e.op).1 a b x y,true)
  else (mkCl now (ep,h,u,l,()) a b x y,false)
 else if e.kind = 4 then (mkCl now (ep,h,u,l,()) a b (if e.who = 1 then x ++ zq479 x l e.n else x) (if e.who = 1 then y else y ++ zq479 y l e.n),true)
 else (mkCl now (ep,h,u,l,()) (if e.who = 1 then 0 else a) (if e.who = 1 then b else 0) (if e.who = 1 then [] else x) (if e.who = 1 then y else []),true)
abbrev DoC := CluV × Bool × Int × Unit
def errC (e : Int) : DoC := (noCl,false,e,())
def doC (now ep h u : Int) (l : List En) (es : List Int) (cs : List (List En)) (e : Ev) : DoC :=
 if chkC now ep h u l es cs ≠ 0 then errC (chkC now ep h u l es cs) else if formE now e ≠ 0 then errC (formE now e) else
 match es,cs with
 | [a,b],[x,y] => ((evDo now ep h u l a b x y e).1,(evDo now ep h u l a b x y e).2,0,())
 | _,_ => errC 1
theorem rm0 (a : Int) : room (lenL ([] : List Int)) (lenL [a]) = true := rfl
theorem rm1 (a b : Int) : room (lenL [a]) (lenL [b]) = true := rfl
theorem rm2 (a b : Int) : room (lenL ([] : List Int)) (lenL [a,b]) = true := rfl
theorem pd0 : padL ([] : List Int).length ([] : List (List En)) = [] := rfl
theorem pd1 (a : Int) (x : List En) : padL [a].length [x] = [x] := rfl
theorem pd2 (a b : Int) (x y : List En) : padL [a,b].length [x,y] = [x,y] := rfl
theorem ap1 (a b : Int) : [a] ++ [b] = [a,b] := rfl
theorem ap2 (x y : List En) : [x] ++ [y] = [x,y] := rfl
theorem gx0 (x y : List En) : getL [x,y] 0 = x := rfl
theorem gx1 (x y : List En) : getL [x,y] 1 = y := rfl
theorem st0 (a b v : Int) : seti [a,b] 0 v = [v,b] := rfl
theorem st1 (a b v : Int) : seti [a,b] 1 v = [a,v] := rfl
theorem sx0 (x y z : List En) : seti [x,y] 0 z = [z,y] := rfl
theorem sx1 (x y z : List En) : seti [x,y] 1 z = [x,z] := rfl
theorem ox0 (x y : List En) : outL [x,y] 0 = [[],y] := rfl
theorem ox1 (x y : List En) : outL [x,y] 1 = [x,[]] := rfl
abbrev DOwn := List En × List (List En) × List Int × (Int × Int × Int × Int × Unit) × (Ev × Unit) × (Int × Int × Int × Int × Unit) × List En × List Int × List (List En) × (Int × Int × Int × Int × Unit) × List En × List Int × List (List En) × Unit
theorem zq1369 {now ep h u n1 e1 h1 u1 : Int} {l l1 : List En} {a b : Int} {x y : List En} (hx : x.length ≤ 30) (hy : y.length ≤ 30) (e : Ev) :
  loopN zq610 FUEL (((),(),(lenL [a,b],()),(0,()),()),((l,[x,y],[a,b],(now,ep,h,u,()),(e,()),(0,0,0,0,()),[],[],[],(n1,e1,h1,u1,()),l1,[],[],()) : DOwn)) =
   some (((),()),((l,[x,y],[a,b],(now,ep,h,u,()),(e,()),(0,0,0,0,()),[],[],[],(n1,e1,h1,u1,()),l1,[a,b],[x,y],()) : DOwn)) := by
 obtain ⟨N,hN⟩ := fuel3
 have cx : zq1648 x = some (x,()) := zq581 (by omega)
 have cy : zq1648 y = some (y,()) := zq581 (by omega)
 rw [hN,zq1176]
 simp only [zq610,dL0,d02,zq517,iL0,zq1562,g20,zq487,gx0,cx,zq730,zq513,e01,ok1,rm0,zc42,pd0]
 rw [zq1176]
 simp only [zq610,dL1,d12,zq517,iL1,zq1562,g21,zq487,gx1,cy,zq730,zq513,e11,ok2,rm1,pd1,ap1,ap2]
 rw [zq1176]
 simp only [zq610,dL2,d22,zq515]
theorem zq475 {a b : List En} (h : zq468 a b = true) : a.length ≤ b.length := zq476 h
theorem zq619 (now ep h u : Int) {l : List En} (hl : logIn l) (es : List Int) {cs : List (List En)} (hc : ∀ c ∈ cs,logIn c) (hlen : cs.length = es.length) {e : Ev} (he : e.In) : zq621 now ep h u l (es,cs) e = some (doC now ep h u l es cs e) := by
 unfold zq621
 rw [zq600 now ep h u hl es hc,zq487]
 unfold doC
 by_cases h0 : chkC now ep h u l es cs = 0
 rotate_left
 ·rw [decide_eq_false h0,zq515,zq487,if_pos h0]
  simp only [h0,decide_false,zc19,zq517]
  rfl
 obtain ⟨a,b,x,y,rfl,rfl,ok⟩ := zq548 hlen h0
 rw [decide_eq_true h0,zq517,if_neg (fun hh => hh h0),zq645 ok.time.1 ok.time.2,zq487,zq487]
 simp only
 by_cases hf : formE now e = 0
 rotate_left
 ·rw [decide_eq_false hf,zc19,zq517,if_pos hf]; rfl
 obtain ⟨d1,_,_,_,d5,_⟩ := zq550 ok.disk
 have hll := zq555 d5
 obtain ⟨_,_,x1,x2⟩ := zq1257 ok.n1
 obtain ⟨_,_,y1,y2⟩ := zq1257 ok.n2
 have hxl := zq555 x1
 have hyl := zq555 y1
 have hxb := zq475 x2
 have hyb := zq475 y2
 obtain ⟨f1,f2,f3,f4,_⟩ := zq853 hf
 obtain ⟨t1,t2⟩ := ok.time
 rw [decide_eq_true hf,zc10,zq515,if_neg (fun hh => hh hf),zq795 ep h u (by omega),zq487,zq1369 hxl hyl,zq487]
 simp only
 unfold evDo
 by_cases k1 : e.kind = 1
 ·obtain ⟨_,n1,n2⟩ := f2 k1
  rw [decide_eq_true k1,zq517,if_pos k1,zq1560 (zq904 (by omega) (by omega))]
  rfl
 rw [decide_eq_false k1,zq515,if_neg k1]
 have hw := f3 k1
 rw [zq1560 (zq904 (by omega) (by omega))]
 have hz : ∀ z : Int,decide (z = z) = true := fun z => decide_eq_true rfl
 have z0 : decide ((0 : Int) ≤ 0) = true := rfl
 have z1 : decide ((0 : Int) ≤ 1) = true := rfl
 rcases hw with hw | hw
 ·have hi : e.who - 1 = 0 := by omega
  simp only [hi,iL0,zq1562,g20,zq487,gx0,st0,sx0,ox0,pd2,zq730,hz,z0]
  simp only [if_pos hw]
  by_cases k2 : e.kind = 2
  ·rw [decide_eq_true k2,zq517,if_pos k2,zq789 ep h u (by omega) _ _ d1.1 d1.2 t1 t2,zq487]
   by_cases h4 : (acqOf ep h u l e.who now).2.1 = 0
   ·rw [decide_eq_true h4,zq517,zq517,if_pos h4]; rfl
   ·rw [decide_eq_false h4,zq515,zq515,if_neg h4]; rfl
  rw [decide_eq_false k2,zq515,if_neg k2]
  by_cases k3 : e.kind = 3
  ·rw [decide_eq_true k3,zq517,if_pos k3,zq801 ep h u hll _ he.2.2.2,zq487]
   by_cases h4 : (putOf ep h u l a e.op).2.1 = 0
   ·rw [decide_eq_true h4,zq517,if_pos h4]; rfl
   ·rw [decide_eq_false h4,zq515,if_neg h4]; rfl
  rw [decide_eq_false k3,zq515,if_neg k3]
  by_cases k4 : e.kind = 4
  ·obtain ⟨n1,n2⟩ := f4 k4
   rw [decide_eq_true k4,zq517,if_pos k4,zq1623 hxl hll hxb n1 n2,zq487]
   have hbl : (zq479 x l e.n).length ≤ 30 := by unfold zq479; rw [zc20]; omega
   rw [zq1560 (zq1574 (zq1107 _) (zq1107 _) (by unfold lenL; simp only; omega))]
   rfl
  rw [decide_eq_false k4,zq515,if_neg k4,decide_eq_true (show e.kind = 5 by have := zq485.1 f1; omega),zq517]
  rfl
 ·have hi : e.who - 1 = 1 := by omega
  have hw1 : ¬ e.who = 1 := by omega
  simp only [hi,iL1,zq1562,g21,zq487,gx1,st1,sx1,ox1,pd2,zq730,hz,z1]
  simp only [if_neg hw1]
  by_cases k2 : e.kind = 2
  ·rw [decide_eq_true k2,zq517,if_pos k2,zq789 ep h u (by omega) _ _ d1.1 d1.2 t1 t2,zq487]
   by_cases h4 : (acqOf ep h u l e.who now).2.1 = 0
   ·rw [decide_eq_true h4,zq517,zq517,if_pos h4]; rfl
   ·rw [decide_eq_false h4,zq515,zq515,if_neg h4]; rfl
  rw [decide_eq_false k2,zq515,if_neg k2]
  by_cases k3 : e.kind = 3
  ·rw [decide_eq_true k3,zq517,if_pos k3,zq801 ep h u hll _ he.2.2.2,zq487]
   by_cases h4 : (putOf ep h u l b e.op).2.1 = 0
   ·rw [decide_eq_true h4,zq517,if_pos h4]; rfl
   ·rw [decide_eq_false h4,zq515,if_neg h4]; rfl
  rw [decide_eq_false k3,zq515,if_neg k3]
  by_cases k4 : e.kind = 4
  ·obtain ⟨n1,n2⟩ := f4 k4
   rw [decide_eq_true k4,zq517,if_pos k4,zq1623 hyl hll hyb n1 n2,zq487]
   have hbl : (zq479 y l e.n).length ≤ 30 := by unfold zq479; rw [zc20]; omega
   rw [zq1560 (zq1574 (zq1107 _) (zq1107 _) (by unfold lenL; simp only; omega))]
   rfl
  rw [decide_eq_false k4,zq515,if_neg k4,decide_eq_true (show e.kind = 5 by have := zq485.1 f1; omega),zq517]
  rfl
theorem zq13 {ep h u : Int} (l : List En) (who now : Int) (h0 : 0 ≤ ep) (h1 : ep ≤ 999) (n0 : 0 ≤ now) (n1 : now ≤ 9999) : zq15 ep h u l who now = some (acqOf ep h u l who now) := by
 unfold zq15
 rw [zq381 l who now h1,br_sb,zq487,zq1560 (zq904 (by omega) (by omega)),zq1560 (zq904 (by omega) (by omega))]
 have e1 : (bif !decide (h = 0) then decide (u ≥ now) else false) = (!decide (h = 0) && decide (u ≥ now)) := by cases decide (h = 0) <;> rfl
 rw [e1]
 simp only
 generalize (!decide (h = 0) && decide (u ≥ now)) = held
 cases held
 ·simp only [zq515,zq487,zc16,false_and,if_false,if_true,zc19,zq517]
  by_cases k : ep + 1 > 999
  ·rw [decide_eq_true k,zq517,if_pos k]; rfl
  ·rw [decide_eq_false k,zq515,if_neg k]
 ·simp only [zq517,zq487,true_and,zc10,zq515,Bool.true_eq_false,if_false]
  by_cases k : h = who
  ·rw [decide_eq_true k,zc10,zq515,if_neg (fun hh => hh k)]
   have : ¬ ep > 999 := by omega
   rw [decide_eq_false this,zq515,if_neg this,zq1560 (zq904 (by omega) (by omega))]
  ·rw [decide_eq_false k,zc19,zq517,if_pos k]; rfl
theorem zq148 {now ep h u : Int} {l : List En} {a b : Int} {x y : List En} (ok : COk now ep h u l a b x y) {e : Ev} (he : e.In) (hf : formE now e = 0) : zq150 now ep h u l ([a,b],[x,y]) e = some ((evDo now ep h u l a b x y e).1,(evDo now ep h u l a b x y e).2,()) := by
 obtain ⟨d1,_,_,_,d5,_⟩ := zq550 ok.disk
 have hll := zq555 d5
 obtain ⟨_,_,x1,x2⟩ := zq1257 ok.n1
 obtain ⟨_,_,y1,y2⟩ := zq1257 ok.n2
 have hxl := zq555 x1
 have hyl := zq555 y1
 have hxb := zq475 x2
 have hyb := zq475 y2
 obtain ⟨f1,f2,f3,f4,_⟩ := zq853 hf
 obtain ⟨t1,t2⟩ := ok.time
 have hwb : -9223372036854775807 ≤ e.who := by
  by_cases k1 : e.kind = 1
  ·have := (f2 k1).1; omega
  ·have := f3 k1; omega
 have hwb2 : e.who ≤ 2 := by
  by_cases k1 : e.kind = 1
  ·have := (f2 k1).1; omega
  ·have := f3 k1; omega
 unfold zq150 evDo
 simp only [zc42,rm2,zq1562,pd0]
 rw [zq1560 (zq904 (by omega) (by omega))]
 by_cases k1 : e.kind = 1
 ·obtain ⟨_,n1,n2⟩ := f2 k1
  rw [decide_eq_true k1,zq517,if_pos k1,zq1560 (zq904 (by omega) (by omega))]
  rfl
 rw [decide_eq_false k1,zq515,if_neg k1]
 have hw := f3 k1
 have rx : ∀ c : List En,c.length ≤ 30 → room (lenL ([] : List En)) (lenL c) = true := fun c hc => zq1574 (zq1107 _) (zq1107 _) (by unfold lenL; simp; omega)
 rcases hw with hw | hw
 ·have hi : e.who - 1 = 0 := by omega
  simp only [hi,iL0,zq1562,g20,zq487,gx0,st0,sx0,pd2,zq730,rx x hxl,zq513]
  simp only [if_pos hw]
  by_cases k2 : e.kind = 2
  ·rw [decide_eq_true k2,zq517,if_pos k2,zq13 l _ _ d1.1 d1.2 t1 t2,zq487]
   by_cases h4 : (acqOf ep h u l e.who now).2.1 = 0
   ·rw [decide_eq_true h4,zc10,zq515,if_pos h4]; rfl
   ·rw [decide_eq_false h4,zc19,zq517,if_neg h4]; rfl
  rw [decide_eq_false k2,zq515,if_neg k2]
  by_cases k3 : e.kind = 3
  ·rw [decide_eq_true k3,zq517,if_pos k3,zq301 ep h u hll _ he.2.2.2,zq487]
   by_cases h4 : (putOf ep h u l a e.op).2.1 = 0
   ·rw [decide_eq_true h4,zc10,zq515,if_pos h4]; rfl
   ·rw [decide_eq_false h4,zc19,zq517,if_neg h4]; rfl
  rw [decide_eq_false k3,zq515,if_neg k3]
  by_cases k4 : e.kind = 4
  ·obtain ⟨n1,n2⟩ := f4 k4
   have hbl : (zq479 x l e.n).length ≤ 30 := by unfold zq479; rw [zc20]; omega
   have r2 : room (lenL x) (lenL (zq479 x l e.n)) = true := zq1574 (zq1107 _) (zq1107 _) (by unfold lenL; omega)
   rw [decide_eq_true k4,zq517,if_pos k4]
   simp only [zq37 hxl hll hxb n1 n2,zq487,r2,zq1562,zq513]
   rfl
  rw [decide_eq_false k4,zq515,if_neg k4,decide_eq_true (show e.kind = 5 by have := zq485.1 f1; omega),zq517]
  rfl
 ·have hi : e.who - 1 = 1 := by omega
  have hw1 : ¬ e.who = 1 := by omega
  simp only [hi,iL1,zq1562,g21,zq487,gx1,st1,sx1,pd2,zq730,rx y hyl,zq513]
  simp only [if_neg hw1]
  by_cases k2 : e.kind = 2
  ·rw [decide_eq_true k2,zq517,if_pos k2,zq13 l _ _ d1.1 d1.2 t1 t2,zq487]
   by_cases h4 : (acqOf ep h u l e.who now).2.1 = 0
   ·rw [decide_eq_true h4,zc10,zq515,if_pos h4]; rfl
   ·rw [decide_eq_false h4,zc19,zq517,if_neg h4]; rfl
  rw [decide_eq_false k2,zq515,if_neg k2]
  by_cases k3 : e.kind = 3
  ·rw [decide_eq_true k3,zq517,if_pos k3,zq301 ep h u hll _ he.2.2.2,zq487]
   by_cases h4 : (putOf ep h u l b e.op).2.1 = 0
   ·rw [decide_eq_true h4,zc10,zq515,if_pos h4]; rfl
   ·rw [decide_eq_false h4,zc19,zq517,if_neg h4]; rfl
  rw [decide_eq_false k3,zq515,if_neg k3]
  by_cases k4 : e.kind = 4
  ·obtain ⟨n1,n2⟩ := f4 k4
   have hbl : (zq479 y l e.n).length ≤ 30 := by unfold zq479; rw [zc20]; omega
   have r2 : room (lenL y) (lenL (zq479 y l e.n)) = true := zq1574 (zq1107 _) (zq1107 _) (by unfold lenL; omega)
   rw [decide_eq_true k4,zq517,if_pos k4]
   simp only [zq37 hyl hll hyb n1 n2,zq487,r2,zq1562,zq513]
   rfl
  rw [decide_eq_false k4,zq515,if_neg k4,decide_eq_true (show e.kind = 5 by have := zq485.1 f1; omega),zq517]
  rfl
end Go.Ma
namespace Go.Ma
open Go
abbrev CS := Int × Dk × Int × Int × List En × List En
def clOf (s : CS) : CluV := mkCl s.1 s.2.1 s.2.2.1 s.2.2.2.1 s.2.2.2.2.1 s.2.2.2.2.2
def evS (s : CS) (e : Ev) : CS × Bool :=
 if e.kind = 1 then ((s.1 + e.n,s.2),true)
 else if e.kind = 2 then
  if (acqOf s.2.1.1 s.2.1.2.1 s.2.1.2.2.1 s.2.1.2.2.2.1 e.who s.1).2.1 = 0 then
   ((s.1,(acqOf s.2.1.1 s.2.1.2.1 s.2.1.2.2.1 s.2.1.2.2.2.1 e.who s.1).1,if e.who = 1 then (acqOf s.2.1.1 s.2.1.2.1 s.2.1.2.2.1 s.2.1.2.2.2.1 e.who s.1).1.1 else s.2.2.1,if e.who = 1 then s.2.2.2.1 else (acqOf s.2.1.1 s.2.1.2.1 s.2.1.2.2.1 s.2.1.2.2.2.1 e.who s.1).1.1,s.2.2.2.2),true)
  else (s,false)
 else if e.kind = 3 then
  if (putOf s.2.1.1 s.2.1.2.1 s.2.1.2.2.1 s.2.1.2.2.2.1 (if e.who = 1 then s.2.2.1 else s.2.2.2.1) e.op).2.1 = 0 then ((s.1,(putOf s.2.1.1 s.2.1.2.1 s.2.1.2.2.1 s.2.1.2.2.2.1 (if e.who = 1 then s.2.2.1 else s.2.2.2.1) e.op).1,s.2.2),true)
  else (s,false)
 else if e.kind = 4 then ((s.1,s.2.1,s.2.2.1,s.2.2.2.1,if e.who = 1 then s.2.2.2.2.1 ++ zq479 s.2.2.2.2.1 s.2.1.2.2.2.1 e.n else s.2.2.2.2.1,if e.who = 1 then s.2.2.2.2.2 else s.2.2.2.2.2 ++ zq479 s.2.2.2.2.2 s.2.1.2.2.2.1 e.n),true)
 else ((s.1,s.2.1,if e.who = 1 then 0 else s.2.2.1,if e.who = 1 then s.2.2.2.1 else 0,if e.who = 1 then [] else s.2.2.2.2.1,if e.who = 1 then s.2.2.2.2.2 else []),true)
theorem zq757 (now ep h u : Int) (l : List En) (a b : Int) (x y : List En) (e : Ev) : evDo now ep h u l a b x y e = (clOf (evS (now,(ep,h,u,l,()),a,b,x,y) e).1,(evS (now,(ep,h,u,l,()),a,b,x,y) e).2) := by
 unfold evDo evS
 by_cases k1 : e.kind = 1
 ·simp only [if_pos k1]; rfl
 by_cases k2 : e.kind = 2
 ·by_cases h0 : (acqOf ep h u l e.who now).2.1 = 0
  ·simp only [if_neg k1,if_pos k2,if_pos h0]; rfl
  ·simp only [if_neg k1,if_pos k2,if_neg h0]; rfl
 by_cases k3 : e.kind = 3
 ·by_cases h0 : (putOf ep h u l (if e.who = 1 then a else b) e.op).2.1 = 0
  ·simp only [if_neg k1,if_neg k2,if_pos k3,if_pos h0]; rfl
  ·simp only [if_neg k1,if_neg k2,if_pos k3,if_neg h0]; rfl
 by_cases k4 : e.kind = 4
 ·simp only [if_neg k1,if_neg k2,if_neg k3,if_pos k4]; rfl
 ·simp only [if_neg k1,if_neg k2,if_neg k3,if_neg k4]; rfl
def COkS (s : CS) : Prop := COk s.1 s.2.1.1 s.2.1.2.1 s.2.1.2.2.1 s.2.1.2.2.2.1 s.2.2.1 s.2.2.2.1 s.2.2.2.2.1 s.2.2.2.2.2 ∧ logIn s.2.1.2.2.2.1
theorem zq1256 {ep : Int} {l : List En} {e : Int} {c : List En} (h0 : 0 ≤ e) (h1 : e ≤ ep) (h2 : zq551 c = 0) (h3 : zq468 c l = true) : zq563 ep l e c = 0 := by
 unfold zq563
 rw [zq485.2 ⟨h0,h1⟩,if_neg (by simp),if_neg (fun hh => hh h2),h3,if_neg (by simp)]
theorem zq477 {c l m : List En} (h : zq468 c l = true) : zq468 c (l ++ m) = true := by
 have h1 := zq476 h
 have h2 := zq473 h
 unfold zq468
 rw [decide_eq_true (show c.length ≤ (l ++ m).length by simp; omega),List.take_append_of_le_length h1,← h2]
 simp
theorem zq478 (l : List En) : zq468 [] l = true := by unfold zq468; simp
theorem zq474 {c l : List En} (h : zq468 c l = true) (hl : logIn l) : logIn c := by
 rw [zq473 h]; exact zq1810 hl _
theorem zq1626 {x l : List En} (hb : zq468 x l = true) {n : Int} (n0 : 0 ≤ n) : x ++ zq479 x l n = l.take (x.length + n.toNat) := by
 have hk := zq476 hb
 have h1 := (zq480 l x.length hk n.toNat).2
 have e := zq473 hb
 unfold zq479
 rw [← e] at h1
 exact h1
theorem zq472 (l : List En) (k : Nat) : zq468 (l.take k) l = true := by
 by_cases hk : k ≤ l.length
 ·have := zq471 (l := l) hk (zc47 _)
  rwa [List.take_length] at this
 ·rw [List.take_of_length_le (by omega)]
  have := zq469 l []
  rwa [List.append_nil] at this
theorem put_ok {ep h u : Int} {l : List En} {e : Int} {o : Oq} (h0 : (putOf ep h u l e o).2.1 = 0) : e ≠ 0 ∧ e = ep ∧ (zq1224 l e o).2.1 = 0 ∧ (putOf ep h u l e o).1 = (ep,h,u,l ++ [⟨lenL l + 1,e,o⟩],()) := by
 unfold putOf at h0 ⊢
 split at h0
 ·cases h0
 rename_i h2
 split at h0
 ·rename_i h3; exact absurd h0 h3
 rename_i h3
 have h3' := zc50.1 h3
 refine ⟨by omega,by omega,h3',?_⟩
 rw [if_neg h2,if_neg h3,(zq1225 h3').2.2.2.2]
theorem zq380 {ep h u : Int} {l : List En} {who now : Int} (h0 : (acqOf ep h u l who now).2.1 = 0) : (overL h u now = true ∨ h = who) ∧ (overL h u now = true → ep ≠ 999) ∧ (acqOf ep h u l who now).1 = (if overL h u now = true then ep + 1 else ep,who,now + 10,l,()) := by
 unfold acqOf at h0 ⊢
 split at h0
 ·cases h0
 rename_i h1
 split at h0
 ·cases h0
 rename_i h2
 refine ⟨?_,fun ho he => h2 ⟨ho,he⟩,by rw [if_neg h1,if_neg h2]⟩
 cases hov : overL h u now
 ·right
  by_cases hw : h = who
  ·exact hw
  ·exact absurd ⟨hov,hw⟩ h1
 ·exact .inl rfl
structure Step (s s' : CS) (e : Ev) : Prop where
 ok : COkS s'
 time : s.1 ≤ s'.1
 epoch : s.2.1.1 ≤ s'.2.1.1
 log : zq468 s.2.1.2.2.2.1 s'.2.1.2.2.2.1 = true
 same : e.kind ≠ 3 → s'.2.1.2.2.2.1 = s.2.1.2.2.2.1
theorem zq470 (l : List En) : zq468 l l = true := by
 have := zq469 l []
 rwa [List.append_nil] at this
theorem zq1787 {s : CS} (hs : COkS s) {e : Ev} (he : e.In) (hf : formE s.1 e = 0) : Step s (evS s e).1 e := by
 obtain ⟨now,⟨ep,h,u,l,_⟩,a,b,x,y⟩ := s
 obtain ⟨ok,hl⟩ := hs
 simp only at ok hl hf
 obtain ⟨d1,d2,d3,d4,d5,d6⟩ := zq550 ok.disk
 obtain ⟨a0,a1,x1,x2⟩ := zq1257 ok.n1
 obtain ⟨b0,b1,y1,y2⟩ := zq1257 ok.n2
 obtain ⟨f1,f2,f3,f4,_⟩ := zq853 hf
 obtain ⟨t1,t2⟩ := ok.time
 have o1 := ok.o1
 have o2 := ok.o2
 have one := ok.ne
 have self : Step (now,(ep,h,u,l,()),a,b,x,y) (now,(ep,h,u,l,()),a,b,x,y) e := ⟨⟨ok,hl⟩,zc48 _,zc48 _,zq470 l,fun _ => rfl⟩
 unfold evS
 by_cases k1 : e.kind = 1
 ·obtain ⟨_,n1,n2⟩ := f2 k1
  rw [if_pos k1]
  exact ⟨⟨⟨by simp only; omega,ok.disk,ok.n1,ok.n2,ok.ne,ok.o1,ok.o2⟩,hl⟩,by simp only; omega,zc48 _,zq470 l,fun _ => rfl⟩
 rw [if_neg k1]
 have hw := f3 k1
 by_cases k2 : e.kind = 2
 ·rw [if_pos k2]
  by_cases h0 : (acqOf ep h u l e.who now).2.1 = 0
  rotate_left
  ·simp only [if_neg h0]; exact self
  simp only [if_pos h0]
  obtain ⟨g1,g2,g3⟩ := zq380 h0
  rw [g3]
  have hd := zq379 ok.disk (show 1 ≤ e.who ∧ e.who ≤ 2 by omega) ok.time g1 g2
  have hep : (overL h u now = true ∧ (if overL h u now = true then ep + 1 else ep) = ep + 1) ∨ (h = e.who ∧ (if overL h u now = true then ep + 1 else ep) = ep) := by
   cases hov : overL h u now
   ·right
    rw [hov] at g1
    exact ⟨g1.resolve_left (by simp),by simp⟩
   ·left; simp
  generalize hE : (if overL h u now = true then ep + 1 else ep) = E at hd hep
  have hle : ep ≤ E := by omega
  refine ⟨⟨?_,hl⟩,zc48 _,hle,zq470 l,fun _ => rfl⟩
  simp only
  rcases hw with hw | hw
  ·rw [if_pos hw,if_pos hw]
   exact ⟨ok.time,hd,zq1256 (by omega) (zc48 _) x1 x2,zq1256 b0 (by omega) y1 y2,by omega,by omega,by omega⟩
  ·have hw1 : ¬ e.who = 1 := by omega
   rw [if_neg hw1,if_neg hw1]
   exact ⟨ok.time,hd,zq1256 a0 (by omega) x1 x2,zq1256 (by omega) (zc48 _) y1 y2,by omega,by omega,by omega⟩
 rw [if_neg k2]
 by_cases k3 : e.kind = 3
 ·rw [if_pos k3]
  by_cases h0 : (putOf ep h u l (if e.who = 1 then a else b) e.op).2.1 = 0
  rotate_left
  ·simp only [if_neg h0]; exact self
  simp only [if_pos h0]
  obtain ⟨g1,g2,g3,g4⟩ := put_ok h0
  rw [g4]
  have hm : (zq1224 l ep e.op).2.1 = 0 := by rw [← g2]; exact g3
  rw [g2]
  refine ⟨⟨⟨ok.time,zq1855 ok.disk hm,zq1256 a0 a1 x1 (zq477 x2),zq1256 b0 b1 y1 (zq477 y2),ok.ne,ok.o1,ok.o2⟩,?_⟩,zc48 _,zc48 _,zq469 _ _,fun hh => absurd k3 hh⟩
  exact zq455 hl (by have := zq555 d5; unfold lenL; constructor <;> omega) (by constructor <;> omega) he.2.2.2
 rw [if_neg k3]
 by_cases k4 : e.kind = 4
 ·obtain ⟨n1,n2⟩ := f4 k4
  rw [if_pos k4]
  refine ⟨⟨?_,hl⟩,zc48 _,zc48 _,zq470 l,fun _ => rfl⟩
  simp only
  rcases hw with hw | hw
  ·rw [if_pos hw,if_pos hw,zq1626 x2 n1]
   exact ⟨ok.time,ok.disk,zq1256 a0 a1 (zq557 d5 _) (zq472 l _),ok.n2,ok.ne,ok.o1,ok.o2⟩
  ·have hw1 : ¬ e.who = 1 := by omega
   rw [if_neg hw1,if_neg hw1,zq1626 y2 n1]
   exact ⟨ok.time,ok.disk,ok.n1,zq1256 b0 b1 (zq557 d5 _) (zq472 l _),ok.ne,ok.o1,ok.o2⟩
 rw [if_neg k4]
 have hnil : zq563 ep l 0 [] = 0 := zq1256 (zc48 _) d1.1 rfl (zq478 l)
 refine ⟨⟨?_,hl⟩,zc48 _,zc48 _,zq470 l,fun _ => rfl⟩
 simp only
 rcases hw with hw | hw
 ·simp only [if_pos hw]
  exact ⟨ok.time,ok.disk,hnil,ok.n2,by omega,by omega,ok.o2⟩
 ·have hw1 : ¬ e.who = 1 := by omega
  simp only [if_neg hw1]
  exact ⟨ok.time,ok.disk,ok.n1,hnil,by omega,ok.o1,by omega⟩
end Go.Ma
namespace Go.Ma
open Go
end Go.Ma
namespace Go.Ma
open Go
theorem beqI (a : Int) : (!decide (a = a)) = false := by rw [decide_eq_true rfl]; rfl
theorem zq1600 {now ep h u : Int} {l : List En} {a b : Int} {x y : List En} (hl : l.length < 9223372036854775808) (hx : x.length < 9223372036854775808) (hy : y.length < 9223372036854775808) : zq255 now ep h u l ([a,b],[x,y]) now ep h u l ([a,b],[x,y]) = some (true,()) := by
 obtain ⟨N,hN⟩ := fuel3
 unfold zq255
 rw [zq259 ep h u ep h u l hl,beqI,zq515,zq487,decide_eq_true rfl,zc10,zq487,zq515,beqI,zq487,zq515,hN,zq1176]
 have ex : zq279 x x = some (true,()) := by rw [zq277 hx,decide_eq_true rfl]
 have ey : zq279 y y = some (true,()) := by rw [zq277 hy,decide_eq_true rfl]
 simp only [zq248,dL0,zq517,iL0,zq1562,g20,zq487,gx0,ex,e01,ok1,beqI,zq515,zc10]
 rw [zq1176]
 simp only [zq248,dL1,zq517,iL1,zq1562,g21,zq487,gx1,ey,e11,ok2,beqI,zq515,zc10]
 rw [zq1176]
 simp only [zq248,dL2,zq515]
 rfl
theorem zq1599 : zq255 0 0 0 0 [] ([],[]) 0 0 0 0 [] ([],[]) = some (true,()) := by
 obtain ⟨N,hN⟩ := fuel3
 unfold zq255
 rw [zq259 0 0 0 0 0 0 [] (by decide),beqI,zq515,zq487,decide_eq_true rfl,zc10,zq487,zq515,beqI,zq487,zq515,hN,zq1176]
 rfl
theorem COkS.len {s : CS} (hs : COkS s) : s.2.1.2.2.2.1.length ≤ 30 ∧ s.2.2.2.2.1.length ≤ 30 ∧ s.2.2.2.2.2.length ≤ 30 := by
 obtain ⟨_,_,_,_,d5,_⟩ := zq550 hs.1.disk
 exact ⟨zq555 d5,zq555 (zq1257 hs.1.n1).2.2.1,zq555 (zq1257 hs.1.n2).2.2.1⟩
theorem COkS.logs {s : CS} (hs : COkS s) : logIn s.2.2.2.2.1 ∧ logIn s.2.2.2.2.2 := ⟨zq474 (zq1257 hs.1.n1).2.2.2 hs.2,zq474 (zq1257 hs.1.n2).2.2.2 hs.2⟩
theorem COkS.chk {s : CS} (hs : COkS s) : chkC s.1 s.2.1.1 s.2.1.2.1 s.2.1.2.2.1 s.2.1.2.2.2.1 [s.2.2.1,s.2.2.2.1] [s.2.2.2.2.1,s.2.2.2.2.2] = 0 := zq546.2 hs.1
theorem COkS.cs {s : CS} (hs : COkS s) : ∀ c ∈ [s.2.2.2.2.1,s.2.2.2.2.2],logIn c := fun c hc => by
 simp only [zc28,zc37,or_false] at hc
 rcases hc with rfl | rfl
 ·exact hs.logs.1
 ·exact hs.logs.2
theorem zq1598 {s : CS} (hs : COkS s) : zq255 s.1 s.2.1.1 s.2.1.2.1 s.2.1.2.2.1 s.2.1.2.2.2.1 ([s.2.2.1,s.2.2.2.1],[s.2.2.2.2.1,s.2.2.2.2.2]) s.1 s.2.1.1 s.2.1.2.1 s.2.1.2.2.1 s.2.1.2.2.2.1 ([s.2.2.1,s.2.2.2.1],[s.2.2.2.2.1,s.2.2.2.2.2]) = some (true,()) := by
 obtain ⟨h1,h2,h3⟩ := hs.len
 exact zq1600 (by omega) (by omega) (by omega)
theorem zq545 {s : CS} (hs : COkS s) : zq602 s.1 s.2.1.1 s.2.1.2.1 s.2.1.2.2.1 s.2.1.2.2.2.1 ([s.2.2.1,s.2.2.2.1],[s.2.2.2.2.1,s.2.2.2.2.2]) = some (0,()) := by
 rw [zq600 _ _ _ _ hs.2 _ hs.cs,hs.chk]
theorem do_cl {s : CS} (hs : COkS s) {e : Ev} (he : e.In) : zq621 s.1 s.2.1.1 s.2.1.2.1 s.2.1.2.2.1 s.2.1.2.2.2.1 ([s.2.2.1,s.2.2.2.1],[s.2.2.2.2.1,s.2.2.2.2.2]) e = some (if formE s.1 e ≠ 0 then errC (formE s.1 e) else (clOf (evS s e).1,(evS s e).2,0,())) := by
 rw [zq619 _ _ _ _ hs.2 _ hs.cs rfl he]
 unfold doC
 rw [if_neg (fun hh => hh hs.chk)]
 simp only [zq757]
theorem ev_cl {s : CS} (hs : COkS s) {e : Ev} (he : e.In) (hf : formE s.1 e = 0) : zq150 s.1 s.2.1.1 s.2.1.2.1 s.2.1.2.2.1 s.2.1.2.2.2.1 ([s.2.2.1,s.2.2.2.1],[s.2.2.2.2.1,s.2.2.2.2.2]) e = some (clOf (evS s e).1,(evS s e).2,()) := by
 rw [zq148 hs.1 he hf]
 simp only [zq757]
def seenC (now ep h u : Int) (l : List En) (es : List Int) (cs : List (List En)) (who : Int) : StV × Int × Unit :=
 if chkC now ep h u l es cs ≠ 0 then (noSt,chkC now ep h u l es cs,()) else if betw who 1 2 = false then (noSt,3,()) else (zq1557 noSt (getL cs (who - 1)),0,())
theorem zq639 (now ep h u : Int) {l : List En} (hl : logIn l) (es : List Int) {cs : List (List En)} (hc : ∀ c ∈ cs,logIn c) (hlen : cs.length = es.length) (who : Int) : zq641 now ep h u l (es,cs) who = some (seenC now ep h u l es cs who) := by
 unfold zq641 seenC
 rw [zq600 now ep h u hl es hc,zq487]
 by_cases h0 : chkC now ep h u l es cs = 0
 rotate_left
 ·rw [decide_eq_false h0,zq515,zq487,zq515,zc19,zq517,if_pos h0]; rfl
 obtain ⟨a,b,x,y,rfl,rfl,ok⟩ := zq548 hlen h0
 rw [decide_eq_true h0,zq517,zq657,zq487,zq487,zc10,if_neg (fun hh => hh h0)]
 cases hb : betw who 1 2
 ·rfl
 obtain ⟨w1,w2⟩ := zq485.1 hb
 have hw : who = 1 ∨ who = 2 := by omega
 have hx := zq555 (zq1257 ok.n1).2.2.1
 have hy := zq555 (zq1257 ok.n2).2.2.1
 have ix : logIn x := hc x (by simp)
 have iy : logIn y := hc y (by simp)
 simp only [zc10,zq515]
 rw [if_neg (by simp),zq1560 (zq904 (by omega) (by omega))]
 rcases hw with rfl | rfl
 ·rw [show (1 : Int) - 1 = 0 from rfl]
  simp only [iL0,zq1562,g20,zq487,gx0,zq1133 ix hx]
 ·rw [show (2 : Int) - 1 = 1 from rfl]
  simp only [iL1,zq1562,g21,zq487,gx1,zq1133 iy hy]
def runC : CS → List Bool → List Ev → Int × CS × List Bool
 | s,out,[] => (0,s,out)
 | s,out,e :: r => if formE s.1 e ≠ 0 then (formE s.1 e,s,out) else runC (evS s e).1 (out ++ [(evS s e).2]) r
def cs0 : CS := (0,(0,0,0,[],()),0,0,[],[])
theorem zq668 : COkS cs0 := ⟨zq546.1 (by decide +kernel),fun e he => by cases he⟩
theorem zq1585 : ∀ (r : List Ev) (s : CS) (out : List Bool),COkS s → (∀ e ∈ r,e.In) → COkS (runC s out r).2.1 ∧ ((runC s out r).1 = 0 → (runC s out r).2.2.length = out.length + r.length)
 | [],s,out,hs,_ => ⟨hs,fun _ => rfl⟩
 | e :: r,s,out,hs,hr => by
  unfold runC
  by_cases hf : formE s.1 e = 0
  ·rw [if_neg (fun hh => hh hf)]
   obtain ⟨h1,h2⟩ := zq1585 r (evS s e).1 (out ++ [(evS s e).2]) (zq1787 hs (hr e List.mem_cons_self) hf).ok fun x hx => hr x (List.mem_cons_of_mem _ hx)
   exact ⟨h1,fun h => by rw [h2 h]; simp; omega⟩
  ·rw [if_pos hf]
   exact ⟨hs,fun h => absurd h hf⟩
abbrev RunA := List Ev × (Int × Int × Int × Int × Unit) × (Int × Int × Int × Int × Unit) × List Bool × List En × List Int × List En × List Int × List (List En) × List (List En) × Unit
def zq1586 (l : List Ev) (z : Int × CS × List Bool) : (((Unit) × (Unit) × (Int × Unit) × Unit) × (List Ev × (Int × Int × Int × Int × Unit) × List Bool × List En × List Int × List (List En) × Unit)) ⊕ (((Unit) × (Unit) × (Unit) × Unit) × RunA) :=
 if z.1 ≠ 0 then Sum.inl (((),(),(z.1,()),()),(l,(0,0,0,0,()),[],[],[],[],()))
 else Sum.inr (((),(),(),()),(l,(0,0,0,0,()),(z.2.1.1,z.2.1.2.1.1,z.2.1.2.1.2.1,z.2.1.2.1.2.2.1,()),z.2.2,[],[],z.2.1.2.1.2.2.2.1,[z.2.1.2.2.1,z.2.1.2.2.2.1],[],[z.2.1.2.2.2.2.1,z.2.1.2.2.2.2.2],()))
theorem zq1595 {l : List Ev} (hl : l.length ≤ 40) (hin : ∀ e ∈ l,e.In) : ∀ (N i : Nat) (s : CS) (out : List Bool),COkS s → i ≤ l.length → l.length - i < N → out.length ≤ i →
  loopN zq627 N (((),(),(),(),(lenL l,()),((i : Int),()),()),((l,(0,0,0,0,()),(s.1,s.2.1.1,s.2.1.2.1,s.2.1.2.2.1,()),out,[],[],s.2.1.2.2.2.1,[s.2.2.1,s.2.2.2.1],[],[s.2.2.2.2.1,s.2.2.2.2.2],()) : RunA)) = some (zq1586 l (runC s out (l.drop i)))
 | 0,_,_,_,_,_,hN,_ => by omega
 | N + 1,i,s,out,hs,hi,hN,ho => by
  rw [zq1176]
  by_cases h : i < l.length
  rotate_left
  ·simp only [zq627]
   rw [decide_eq_false (show ¬ (i : Int) < lenL l by unfold lenL; omega),zq515,zc18 (by omega)]
   rfl
  obtain ⟨e,he⟩ : ∃ e,l[i]? = some e := ⟨_,zc0 h⟩
  have hei := hin e (zc5 he)
  rw [zq728 he]
  simp only [zq627]
  rw [decide_eq_true (show (i : Int) < lenL l by unfold lenL; omega),zq517,zq1560 (zq910 (by omega) (by unfold lenL; omega)),zq871 he,zq487,do_cl hs hei,zq487]
  unfold runC
  by_cases hf : formE s.1 e = 0
  rotate_left
  ·rw [if_pos hf,if_pos hf]
   have h1 : ¬ (errC (formE s.1 e)).2.2.1 = 0 := hf
   rw [decide_eq_false h1,zc19,zq517]
   unfold zq1586
   rw [if_pos hf]
   rfl
  rw [if_neg (fun hh => hh hf),if_neg (fun hh => hh hf)]
  simp only [decide_true,zc10,zq515]
  rw [zq1560 (zq1574 (zq1107 _) (zq1107 _) (by unfold lenL; simp; omega)),zq1560 (zq904 (by omega) (by omega)),show ((i : Int) + 1) = ((i + 1 : Nat) : Int) by omega]
  exact zq1595 hl hin N (i + 1) (evS s e).1 (out ++ [(evS s e).2]) (zq1787 hs hei hf).ok (by omega) (by omega) (by simp; omega)
def runT (l : List Ev) : CluV × List Bool × Int × Unit :=
 if l.length > 40 then (noCl,[],2,()) else if (runC cs0 [] l).1 ≠ 0 then (noCl,[],(runC cs0 [] l).1,()) else (clOf (runC cs0 [] l).2.1,(runC cs0 [] l).2.2,0,())
theorem zq633 {l : List Ev} (hin : ∀ e ∈ l,e.In) : zq635 l = some (runT l) := by
 unfold zq635 runT
 by_cases h : l.length > 40
 ·rw [decide_eq_true (show lenL l > 40 by unfold lenL; omega),zq517,if_pos h]; rfl
 rw [decide_eq_false (show ¬ lenL l > 40 by unfold lenL; omega),zq515,if_neg h]
 have := zq1595 (l := l) (by omega) hin FUEL 0 cs0 [] zq668 (Nat.zero_le _) (by unfold FUEL; omega) (zc47 _)
 rw [List.drop_zero] at this
 have this : loopN zq627 FUEL (((),(),(),(),(lenL l,()),(0,()),()),((l,(0,0,0,0,()),(0,0,0,0,()),[],[],[],[],[0,0],[],[[],[]],()) : RunA)) = _ := this
 unfold zq626
 rw [zq487,this,zq487]
 unfold zq1586
 by_cases h0 : (runC cs0 [] l).1 = 0
 ·rw [if_neg (fun hh => hh h0),if_neg (fun hh => hh h0)]; rfl
 ·rw [if_pos h0,if_pos h0]; rfl
theorem zq584 {s : CS} (hs : COkS s) : zq1001 s.1 s.2.1.1 s.2.1.2.1 s.2.1.2.2.1 s.2.1.2.2.2.1 ([s.2.2.1,s.2.2.2.1],[s.2.2.2.2.1,s.2.2.2.2.2]) 0 0 s.1 s.2.1.1 s.2.1.2.1 s.2.1.2.2.1 s.2.1.2.2.2.1 ([s.2.2.1,s.2.2.2.1],[s.2.2.2.2.1,s.2.2.2.2.2]) = some (true,()) := by
 unfold zq1001
 rw [decide_eq_true rfl,zc10,zq515,zq517,zq1598 hs]
 rfl
theorem zq585 {e : Int} (he : e ≠ 0) (now ep h u : Int) (l : List En) (ns : List Int × List (List En)) : zq1001 0 0 0 0 [] ([],[]) e e now ep h u l ns = some (true,()) := by
 unfold zq1001
 rw [decide_eq_false he,zc19,zq517,decide_eq_true rfl,zq517,zq1599]
 rfl
def evs : List Ev := [⟨2,1,0,noOq⟩,⟨3,1,0,op1⟩,⟨1,0,11,noOq⟩,⟨2,2,0,noOq⟩,⟨3,1,0,op2⟩,⟨4,2,5,noOq⟩,⟨3,2,0,op3⟩]
theorem zq758 : zq1006 = some (evs,()) := rfl
theorem zq1253 : noOq.In := ⟨⟨by decide,by decide⟩,zq1254,zq1252,zq1792,⟨by decide,by decide⟩,⟨by decide,by decide⟩⟩
theorem zq759 : ∀ e ∈ evs,e.In := fun e he => by
 simp only [evs,zc28,zc37,or_false] at he
 rcases he with rfl | rfl | rfl | rfl | rfl | rfl | rfl
 all_goals refine ⟨⟨by decide,by decide⟩,⟨by decide,by decide⟩,⟨by decide,by decide⟩,?_⟩
 ·exact zq1253
 ·exact op_in.1
 ·exact zq1253
 ·exact zq1253
 ·exact op_in.2.1
 ·exact zq1253
 ·exact op_in.2.2
def csE : CS := (runC cs0 [] evs).2.1
theorem zq1593 : (runC cs0 [] evs).1 = 0 := by decide +kernel
theorem zq1590 : (runC cs0 [] evs).2.2 = [true,true,true,true,false,true,true] := by decide +kernel
theorem zq670 : COkS csE := (zq1585 evs cs0 [] zq668 zq759).1
theorem zq669 : lenL csE.2.1.2.2.2.1 = 2 := by decide +kernel
theorem csE_ep : csE.2.1.1 = 2 := by decide +kernel
theorem zq671 : lenL (zq1557 noSt csE.2.2.2.2.2).1.1 = 1 := by decide +kernel
theorem zq1246 : zq602 0 0 0 0 [] ([0,0],[[],[]]) = some (0,()) := zq545 zq668
theorem zq583 : zq996 = some (true,()) := by
 have e1 : zq635 evs = some (clOf csE,[true,true,true,true,false,true,true],0,()) := by
  rw [zq633 zq759]
  unfold runT
  rw [if_neg (by decide),if_neg (fun hh => hh zq1593),zq1590]
  rfl
 have e2 : zq641 csE.1 csE.2.1.1 csE.2.1.2.1 csE.2.1.2.2.1 csE.2.1.2.2.2.1 ([csE.2.2.1,csE.2.2.2.1],[csE.2.2.2.2.1,csE.2.2.2.2.2]) 2 = some (zq1557 noSt csE.2.2.2.2.2,0,()) := by
  rw [zq639 _ _ _ _ zq670.2 _ zq670.cs rfl]
  unfold seenC
  rw [if_neg (fun hh => hh zq670.chk),if_neg (by decide)]
  rfl
 have e3 := zq545 zq670
 unfold zq996
 rw [zq758,zq487,e1,zq487]
 show (zq641 csE.1 csE.2.1.1 csE.2.1.2.1 csE.2.1.2.2.1 csE.2.1.2.2.2.1 ([csE.2.2.1,csE.2.2.2.1],[csE.2.2.2.2.1,csE.2.2.2.2.2]) 2).bind _ = _
 rw [e2,zq487]
 unfold zq626
 simp only [zq487,decide_true,zc10,zq515]
 rw [zq1246,zq487]
 simp only [decide_true,zc10,zq515]
 rw [show lenL [true,true,true,true,false,true,true] = 7 from rfl,decide_eq_true rfl,zc10,zq515]
 show (zq602 csE.1 csE.2.1.1 csE.2.1.2.1 csE.2.1.2.2.1 csE.2.1.2.2.2.1 ([csE.2.2.1,csE.2.2.2.1],[csE.2.2.2.2.1,csE.2.2.2.2.2])).bind _ = _
 rw [e3,zq487]
 simp only [decide_true,zc10,zq515]
 show (req true <| (some true).bind fun p9 => (br p9 (req true <| (some false).bind fun p10 => some (!p10)) (some false)).bind fun c10 => (br c10 (req true <| (some true).bind fun p11 => some p11) (some false)).bind fun c11 => (br c11 (some (decide (lenL csE.2.1.2.2.2.1 = 2))) (some false)).bind fun c12 => (br c12 (some (decide (csE.2.1.1 = 2))) (some false)).bind fun c13 => (br c13 (some (decide (lenL (zq1557 noSt csE.2.2.2.2.2).1.1 = 1))) (some false)).bind fun c14 => some (c14,())) = _
 rw [zq669,csE_ep,zq671]
 rfl
end Go.Ma
namespace Go.Ma
open Go
theorem zq1359 (n : Int) : (br (decide (n < 1)) (some true) (some (decide (n > 2)))) = some (!betw n 1 2) := by
 unfold betw
 by_cases h1 : n < 1
 ·rw [decide_eq_true h1,zq517,decide_eq_false (show ¬ 1 ≤ n by omega)]; rfl
 ·rw [decide_eq_false h1,zq515,decide_eq_true (show 1 ≤ n by omega),Bool.true_and]
  by_cases h2 : n > 2
  ·rw [decide_eq_true h2,decide_eq_false (show ¬ n ≤ 2 by omega)]; rfl
  ·rw [decide_eq_false h2,decide_eq_true (show n ≤ 2 by omega)]; rfl
theorem zq963 {l : List En} (hl : logIn l) : zq1022 (zq1557 noSt l).1 (zq1557 noSt l).2.1 (zq1557 noSt l).2.2.1 0 0 (zq1557 noSt l).1 (zq1557 noSt l).2.1 (zq1557 noSt l).2.2.1 = some (true,()) :=
 zq1020 (ps := (zq1557 noSt l).1.1) (ks := (zq1557 noSt l).1.2) (StOk.fit (zq1559 zq1255 hl)) _ 0 _ _ _ _ (by rw [if_pos rfl])
theorem zq4 (now ep h u : Int) {l : List En} (hl : logIn l) (hlen : l.length < 9223372036854775808) (es : List Int) {cs : List (List En)} (hc : ∀ c ∈ cs,logIn c) (hn : cs.length = es.length) {e : Ev} (he : e.In) (who : Int) : zq989 now ep h u l (es,cs) e who = some (true,()) := by
 have hck := zq600 now ep h u hl es hc
 unfold zq989
 rw [zq619 now ep h u hl es hc hn he,zq487,zq639 now ep h u hl es hc hn,zq487,zq67 now ep h u hl hlen es hc,zq487]
 by_cases h0 : chkC now ep h u l es cs = 0
 rotate_left
 ·have d1 : doC now ep h u l es cs e = errC (chkC now ep h u l es cs) := by unfold doC; rw [if_pos h0]
  have s1 : seenC now ep h u l es cs who = (noSt,chkC now ep h u l es cs,()) := by unfold seenC; rw [if_pos h0]
  have e4 : zq1001 0 0 0 0 [] ([],[]) (chkC now ep h u l es cs) (chkC now ep h u l es cs) 0 0 0 0 [] ([],[]) = some (true,()) := zq585 h0 0 0 0 0 [] ([],[])
  have e5 : zq1022 (([] : List Pf),([] : List (List Ad))) ([] : List Ls) 0 (chkC now ep h u l es cs) (chkC now ep h u l es cs) (([] : List Pf),([] : List (List Ad))) ([] : List Ls) 0 = some (true,()) := zq1020 zq828 0 _ _ _ _ _ (by rw [if_neg h0]; rfl)
  rw [d1,s1,hck]
  simp only [errC,noCl,noSt,h0,decide_false,zq515,zq517,zq487,decide_true,e4,e5,zq482,zq583]
 obtain ⟨a,b,x,y,rfl,rfl,ok⟩ := zq548 hn h0
 have hs : COkS (now,(ep,h,u,l,()),a,b,x,y) := ⟨ok,hl⟩
 have hx := zq555 (zq1257 ok.n1).2.2.1
 have hy := zq555 (zq1257 ok.n2).2.2.1
 have ix : logIn x := hc x (by simp)
 have iy : logIn y := hc y (by simp)
 have sn : ∀ e' : Int,e' ≠ 0 → zq1022 (([] : List Pf),([] : List (List Ad))) ([] : List Ls) 0 e' e' (([] : List Pf),([] : List (List Ad))) ([] : List Ls) 0 = some (true,()) := fun e' h' => zq1020 zq828 0 _ _ _ _ _ (by rw [if_neg h']; rfl)
 have s3 := sn 3 (by decide)
 rw [hck]
 simp only [h0,decide_true,zq517]
 rw [zq82 ok.time.1 ok.time.2,zq487,zq1359,zq487]
 have hd : doC now ep h u l [a,b] [x,y] e = (if formE now e ≠ 0 then errC (formE now e) else (clOf (evS (now,(ep,h,u,l,()),a,b,x,y) e).1,(evS (now,(ep,h,u,l,()),a,b,x,y) e).2,0,())) := by
  unfold doC
  rw [if_neg (fun hh => hh h0)]
  simp only [zq757]
 rw [hd]
 by_cases hf : formE now e = 0
 rotate_left
 ·rw [if_pos hf]
  have e4 : zq1001 0 0 0 0 [] ([],[]) (formE now e) (formE now e) 0 0 0 0 [] ([],[]) = some (true,()) := zq585 hf 0 0 0 0 [] ([],[])
  cases hb : betw who 1 2
  ·have s1 : seenC now ep h u l [a,b] [x,y] who = (noSt,3,()) := by unfold seenC; rw [if_neg (fun hh => hh h0),if_pos hb]
   rw [s1]
   simp only [errC,noCl,noSt,hf,decide_false,zq515,zq517,zq487,decide_true,e4,s3,zq482,zq583,zc19]
  ·have s1 : seenC now ep h u l [a,b] [x,y] who = (zq1557 noSt (getL [x,y] (who - 1)),0,()) := by unfold seenC; rw [if_neg (fun hh => hh h0),if_neg (by simp [hb])]
   obtain ⟨w1,w2⟩ := zq485.1 hb
   rw [s1]
   have hw : who = 1 ∨ who = 2 := by omega
   rcases hw with rfl | rfl
   ·rw [show (1 : Int) - 1 = 0 from rfl]
    simp only [gx0,errC,noCl,hf,decide_false,zq515,zq517,zq487,decide_true,e4,zq963 ix,zq482,zq583,zc10,iL0,zq1562,g20,zq236 ix hx,show i64ok 0 = true from rfl]
   ·rw [show (2 : Int) - 1 = 1 from rfl]
    simp only [gx1,errC,noCl,hf,decide_false,zq515,zq517,zq487,decide_true,e4,zq963 iy,zq482,zq583,zc10,iL1,zq1562,g21,zq236 iy hy,ok1]
 ·rw [if_neg (fun hh => hh hf)]
  have hs' := (zq1787 hs he hf).ok
  have ev : zq150 now ep h u l ([a,b],[x,y]) e = some (clOf (evS (now,(ep,h,u,l,()),a,b,x,y) e).1,(evS (now,(ep,h,u,l,()),a,b,x,y) e).2,()) := ev_cl hs he hf
  generalize evS (now,(ep,h,u,l,()),a,b,x,y) e = z at hs' ev ⊢
  have e4 : zq1001 (clOf z.1).1 (clOf z.1).2.1 (clOf z.1).2.2.1 (clOf z.1).2.2.2.1 (clOf z.1).2.2.2.2.1 (clOf z.1).2.2.2.2.2.1 0 0 (clOf z.1).1 (clOf z.1).2.1 (clOf z.1).2.2.1 (clOf z.1).2.2.2.1 (clOf z.1).2.2.2.2.1 (clOf z.1).2.2.2.2.2.1 = some (true,()) := zq584 hs'
  rw [ev]
  cases hb : betw who 1 2
  ·have s1 : seenC now ep h u l [a,b] [x,y] who = (noSt,3,()) := by unfold seenC; rw [if_neg (fun hh => hh h0),if_pos hb]
   rw [s1]
   simp only [noSt,hf,zq515,zq517,zq487,decide_true,e4,s3,zq482,zq583,zc19]
  ·have s1 : seenC now ep h u l [a,b] [x,y] who = (zq1557 noSt (getL [x,y] (who - 1)),0,()) := by unfold seenC; rw [if_neg (fun hh => hh h0),if_neg (by simp [hb])]
   obtain ⟨w1,w2⟩ := zq485.1 hb
   rw [s1]
   have hw : who = 1 ∨ who = 2 := by omega
   rcases hw with rfl | rfl
   ·rw [show (1 : Int) - 1 = 0 from rfl]
    simp only [gx0,hf,zq515,zq517,zq487,decide_true,e4,zq963 ix,zq482,zq583,zc10,iL0,zq1562,g20,zq236 ix hx,show i64ok 0 = true from rfl]
   ·rw [show (2 : Int) - 1 = 1 from rfl]
    simp only [gx1,hf,zq515,zq517,zq487,decide_true,e4,zq963 iy,zq482,zq583,zc10,iL1,zq1562,g21,zq236 iy hy,ok1]
end Go.Ma
namespace Go.Proofs.YtjncjiegmnicbabGreat
open Go Go.Ma
def noTi : TI := { known := false,kind := .other,agg := false,size := 0,zero := [],fields := [],elem := 0 }
def ti_1 : TI := ⟨true,.other,false,1,[.nilFunc],[],0,8,false,none,none,[]⟩
def ti_2 : TI := ⟨true,(.int .i64),false,1,[.int .i64 0],[],0,8,false,some .int,none,[]⟩
def ti_3 : TI := ti_2
def ti_4 : TI := ⟨true,.bool,false,1,[.bool false],[],0,1,false,some .bool,none,[]⟩
def ti_5 : TI := ⟨true,(.int .u8),false,1,[.int .u8 0],[],0,1,false,some .u8,none,[]⟩
def ti_6 : TI := ti_5
def ti_7 : TI := ⟨true,.struct,true,4,[.int .i64 0,.int .i64 0,.bool false,.int .u8 0],[(0,2),(1,3),(2,4),(3,6)],0,24,false,none,none,[]⟩
def ti_8 : TI := ti_7
def ti_9 : TI := ⟨true,.str,false,1,[.string .empty],[],0,16,false,some .str,none,[]⟩
def ti_10 : TI := ti_9
def ti_11 : TI := ti_9
def ti_12 : TI := ⟨true,(.int .u64),false,1,[.int .u64 0],[],0,8,false,some .u64,none,[]⟩
def ti_13 : TI := ⟨true,.struct,true,2,[.string .empty,.int .u64 0],[(0,9),(1,12)],0,24,false,none,none,[]⟩
def ti_14 : TI := ti_13
def ti_15 : TI := ⟨true,.other,false,1,[.pointer none],[],0,8,false,none,none,[]⟩
def ti_16 : TI := ti_15
def ti_17 : TI := ti_15
def ti_18 : TI := ⟨true,.struct,true,1,[.pointer none],[(0,17)],0,8,false,none,none,[]⟩
def ti_19 : TI := ti_18
def ti_20 : TI := ⟨true,.other,false,1,[.nilIface],[],0,16,false,none,none,[]⟩
def ti_21 : TI := ⟨true,(.int .i32),false,1,[.int .i32 0],[],0,4,false,none,none,[]⟩
def ti_22 : TI := ⟨true,.struct,true,2,[.int .i64 0,.int .i64 0],[(0,3),(1,3)],0,16,false,none,none,[]⟩
def ti_23 : TI := ⟨true,.struct,true,2,[.int .i64 0,.int .i64 0],[(0,3),(1,3)],0,16,true,none,none,[]⟩
def ti_24 : TI := ⟨true,.slice,false,1,[.slice none 0 0],[],68,24,false,none,none,[(0,.inl .entry,68)]⟩
def ti_25 : TI := ⟨true,.struct,true,4,[.int .i64 0,.int .i64 0,.int .i64 0,.slice none 0 0],[(0,3),(1,23),(3,24)],0,48,false,none,none,[(3,.inl .entry,68)]⟩
def ti_26 : TI := ti_25
def ti_27 : TI := ⟨true,.slice,false,1,[.slice none 0 0],[],56,24,false,none,none,[(0,.inr (.int,.entry,68),56)]⟩
def ti_29 : TI := ⟨true,.struct,true,6,[.int .i64 0,.int .i64 0,.int .i64 0,.int .i64 0,.slice none 0 0,.slice none 0 0],[(0,3),(1,26),(5,27)],0,80,false,none,none,[(4,.inl .entry,68),(5,.inr (.int,.entry,68),56)]⟩
def ti_30 : TI := ti_12
def ti_31 : TI := ⟨true,.struct,true,3,[.bool false,.int .u64 0,.int .u64 0],[(0,4),(1,30),(2,30)],0,24,false,none,none,[]⟩
def ti_32 : TI := ⟨true,.struct,true,3,[.bool false,.int .u64 0,.int .u64 0],[(0,4),(1,30),(2,30)],0,24,true,some .addr,none,[]⟩
def ti_34 : TI := ⟨true,.struct,true,4,[.bool false,.int .u64 0,.int .u64 0,.int .i64 0],[(0,32),(3,3)],0,32,true,some .pfx,none,[]⟩
def ti_36 : TI := ⟨true,.struct,true,11,[.int .i64 0,.bool false,.int .u64 0,.int .u64 0,.int .i64 0,.bool false,.int .u64 0,.int .u64 0,.string .empty,.int .i64 0,.int .i64 0],[(0,3),(1,34),(5,32),(8,9),(9,3),(10,3)],0,96,true,some .op,none,[]⟩
def ti_37 : TI := ⟨true,.struct,true,14,[.int .i64 0,.int .i64 0,.int .i64 0,.int .i64 0,.bool false,.int .u64 0,.int .u64 0,.int .i64 0,.bool false,.int .u64 0,.int .u64 0,.string .empty,.int .i64 0,.int .i64 0],[(0,3),(1,3),(2,3),(3,36)],0,120,false,none,none,[]⟩
def ti_38 : TI := ⟨true,.struct,true,14,[.int .i64 0,.int .i64 0,.int .i64 0,.int .i64 0,.bool false,.int .u64 0,.int .u64 0,.int .i64 0,.bool false,.int .u64 0,.int .u64 0,.string .empty,.int .i64 0,.int .i64 0],[(0,3),(1,3),(2,3),(3,36)],0,120,true,some .event,none,[]⟩
def ti_39 : TI := ti_2
def ti_41 : TI := ti_1
def ti_42 : TI := ⟨true,.slice,false,1,[.slice none 0 0],[],116,24,false,none,none,[(0,.inr (.pfx,.addr,32),116)]⟩
def ti_43 : TI := ⟨true,.slice,false,1,[.slice none 0 0],[],127,24,false,none,none,[(0,.inl .lease,127)]⟩
def ti_45 : TI := ⟨true,.struct,true,3,[.slice none 0 0,.slice none 0 0,.int .i64 0],[(0,42),(1,43),(2,3)],0,56,false,none,none,[(0,.inr (.pfx,.addr,32),116),(1,.inl .lease,127)]⟩
def ti_47 : TI := ti_1
def ti_51 : TI := ti_1
def ti_52 : TI := ⟨true,.slice,false,1,[.slice none 0 0],[],32,24,false,none,none,[(0,.inl .addr,32)]⟩
def ti_56 : TI := ⟨true,.struct,true,2,[.int .i64 0,.slice none 0 0],[(0,3),(1,24)],0,32,false,none,some (.int,.entry,68),[(1,.inl .entry,68)]⟩
def ti_61 : TI := ⟨true,.slice,false,1,[.slice none 0 0],[],38,24,false,none,none,[(0,.inl .event,38)]⟩
def ti_62 : TI := ⟨true,.slice,false,1,[.slice none 0 0],[],4,24,false,none,none,[(0,.inl .bool,4)]⟩
def ti_64 : TI := ti_1
def ti_68 : TI := ⟨true,.struct,true,13,[.int .i64 0,.int .i64 0,.int .i64 0,.bool false,.int .u64 0,.int .u64 0,.int .i64 0,.bool false,.int .u64 0,.int .u64 0,.string .empty,.int .i64 0,.int .i64 0],[(0,3),(1,3),(2,36)],0,112,true,some .entry,none,[]⟩
def ti_83 : TI := ⟨true,.slice,false,1,[.slice none 0 0],[],36,24,false,none,none,[(0,.inl .op,36)]⟩
def ti_92 : TI := ti_15
def ti_96 : TI := ⟨true,.struct,true,6,[.int .i64 0,.int .i64 0,.int .i64 0,.int .i64 0,.slice none 0 0,.slice none 0 0],[(0,29)],0,80,false,none,none,[(4,.inl .entry,68),(5,.inr (.int,.entry,68),56)]⟩
def ti_101 : TI := ti_1
def ti_106 : TI := ti_1
def ti_116 : TI := ⟨true,.struct,true,5,[.bool false,.int .u64 0,.int .u64 0,.int .i64 0,.slice none 0 0],[(0,34),(4,52)],0,56,false,none,some (.pfx,.addr,32),[(4,.inl .addr,32)]⟩
def ti_119 : TI := ti_1
def ti_127 : TI := ⟨true,.struct,true,5,[.bool false,.int .u64 0,.int .u64 0,.string .empty,.int .i64 0],[(0,32),(3,9),(4,3)],0,48,true,some .lease,none,[]⟩
def ti_136 : TI := ti_15
def ti_138 : TI := ⟨true,.struct,true,4,[.slice none 0 0,.slice none 0 0,.int .i64 0,.slice none 0 0],[(0,45),(3,52)],0,80,false,none,none,[(0,.inr (.pfx,.addr,32),116),(1,.inl .lease,127),(3,.inl .addr,32)]⟩
def ti_143 : TI := ti_1
def ti_145 : TI := ti_1
def ti_148 : TI := ti_1
def ti_153 : TI := ti_1
def ti_155 : TI := ti_1
def ti_158 : TI := ti_1
def ti_160 : TI := ti_1
def ti_161 : TI := ti_1
def ti_162 : TI := ti_15
def ti_164 : TI := ⟨true,.struct,true,4,[.int .i64 0,.int .i64 0,.int .i64 0,.slice none 0 0],[(0,26)],0,48,false,none,none,[(3,.inl .entry,68)]⟩
def ti_170 : TI := ⟨true,.slice,false,1,[.slice none 0 0],[],5,24,false,none,none,[(0,.inl .u8,5)]⟩
def ti_171 : TI := ti_15
def ti_174 : TI := ⟨true,.struct,true,3,[.slice none 0 0,.slice none 0 0,.int .i64 0],[(0,45)],0,56,false,none,none,[(0,.inr (.pfx,.addr,32),116),(1,.inl .lease,127)]⟩
def ti_188 : TI := ti_1
def ti_190 : TI := ti_15
def ti_195 : TI := ti_1
def ti_198 : TI := ti_12
def ti_202 : TI := ti_15
def ti_204 : TI := ⟨true,.struct,true,6,[.bool false,.int .u64 0,.int .u64 0,.int .i64 0,.slice none 0 0,.slice none 0 0],[(0,116),(5,43)],0,80,false,none,none,[(4,.inl .addr,32),(5,.inl .lease,127)]⟩
def ti_212 : TI := ti_1
def ti_215 : TI := ti_2
def ti_222 : TI := ⟨true,(.int .u32),false,1,[.int .u32 0],[],0,4,false,none,none,[]⟩
def ti_227 : TI := ti_12
def ti_231 : TI := ti_15
def ti_235 : TI := ti_15
def ty (t : Nat) : TI := bif Nat.blt t 256 then (bif Nat.blt t 128 then (bif Nat.blt t 64 then (bif Nat.blt t 32 then (bif Nat.blt t 16 then (bif Nat.blt t 8 then (bif Nat.blt t 4 then (bif Nat.blt t 2 then (bif Nat.blt t 1 then noTi else ti_1) else (bif Nat.blt t 3 then ti_2 else ti_3)) else (bif Nat.blt t 6 then (bif Nat.blt t 5 then ti_4 else ti_5) else (bif Nat.blt t 7 then ti_6 else ti_7))) else (bif Nat.blt t 12 then (bif Nat.blt t 10 then (bif Nat.blt t 9 then ti_8 else ti_9) else (bif Nat.blt t 11 then ti_10 else ti_11)) else (bif Nat.blt t 14 then (bif Nat.blt t 13 then ti_12 else ti_13) else (bif Nat.blt t 15 then ti_14 else ti_15)))) else (bif Nat.blt t 24 then (bif Nat.blt t 20 then (bif Nat.blt t 18 then (bif Nat.blt t 17 then ti_16 else ti_17) else (bif Nat.blt t 19 then ti_18 else ti_19)) else (bif Nat.blt t 22 then (bif Nat.blt t 21 then ti_20 else ti_21) else (bif Nat.blt t 23 then ti_22 else ti_23))) else (bif Nat.blt t 28 then (bif Nat.blt t 26 then (bif Nat.blt t 25 then ti_24 else ti_25) else (bif Nat.blt t 27 then ti_26 else ti_27)) else (bif Nat.blt t 30 then (bif Nat.blt t 29 then noTi else ti_29) else (bif Nat.blt t 31 then ti_30 else ti_31))))) else (bif Nat.blt t 48 then (bif Nat.blt t 40 then (bif Nat.blt t 36 then (bif Nat.blt t 34 then (bif Nat.blt t 33 then ti_32 else noTi) else (bif Nat.blt t 35 then ti_34 else noTi)) else (bif Nat.blt t 38 then (bif Nat.blt t 37 then ti_36 else ti_37) else (bif Nat.blt t 39 then ti_38 else ti_39))) else (bif Nat.blt t 44 then (bif Nat.blt t 42 then (bif Nat.blt t 41 then noTi else ti_41) else (bif Nat.blt t 43 then ti_42 else ti_43)) else (bif Nat.blt t 46 then (bif Nat.blt t 45 then noTi else ti_45) else (bif Nat.blt t 47 then noTi else ti_47)))) else (bif Nat.blt t 56 then (bif Nat.blt t 52 then (bif Nat.blt t 50 then noTi else (bif Nat.blt t 51 then noTi else ti_51)) else (bif Nat.blt t 54 then (bif Nat.blt t 53 then ti_52 else noTi) else noTi)) else (bif Nat.blt t 60 then (bif Nat.blt t 58 then (bif Nat.blt t 57 then ti_56 else noTi) else noTi) else (bif Nat.blt t 62 then (bif Nat.blt t 61 then noTi else ti_61) else (bif Nat.blt t 63 then ti_62 else noTi)))))) else (bif Nat.blt t 96 then (bif Nat.blt t 80 then (bif Nat.blt t 72 then (bif Nat.blt t 68 then (bif Nat.blt t 66 then (bif Nat.blt t 65 then ti_64 else noTi) else noTi) else (bif Nat.blt t 70 then (bif Nat.blt t 69 then ti_68 else noTi) else noTi)) else noTi) else (bif Nat.blt t 88 then (bif Nat.blt t 84 then (bif Nat.blt t 82 then noTi else (bif Nat.blt t 83 then noTi else ti_83)) else noTi) else (bif Nat.blt t 92 then noTi else (bif Nat.blt t 94 then (bif Nat.blt t 93 then ti_92 else noTi) else noTi)))) else (bif Nat.blt t 112 then (bif Nat.blt t 104 then (bif Nat.blt t 100 then (bif Nat.blt t 98 then (bif Nat.blt t 97 then ti_96 else noTi) else noTi) else (bif Nat.blt t 102 then (bif Nat.blt t 101 then noTi else ti_101) else noTi)) else (bif Nat.blt t 108 then (bif Nat.blt t 106 then noTi else (bif Nat.blt t 107 then ti_106 else noTi)) else noTi)) else (bif Nat.blt t 120 then (bif Nat.blt t 116 then noTi else (bif Nat.blt t 118 then (bif Nat.blt t 117 then ti_116 else noTi) else (bif Nat.blt t 119 then noTi else ti_119))) else (bif Nat.blt t 124 then noTi else (bif Nat.blt t 126 then noTi else (bif Nat.blt t 127 then noTi else ti_127))))))) else (bif Nat.blt t 192 then (bif Nat.blt t 160 then (bif Nat.blt t 144 then (bif Nat.blt t 136 then noTi else (bif Nat.blt t 140 then (bif Nat.blt t 138 then (bif Nat.blt t 137 then ti_136 else noTi) else (bif Nat.blt t 139 then ti_138 else noTi)) else (bif Nat.blt t 142 then noTi else (bif Nat.blt t 143 then noTi else ti_143)))) else (bif Nat.blt t 152 then (bif Nat.blt t 148 then (bif Nat.blt t 146 then (bif Nat.blt t 145 then noTi else ti_145) else noTi) else (bif Nat.blt t 150 then (bif Nat.blt t 149 then ti_148 else noTi) else noTi)) else (bif Nat.blt t 156 then (bif Nat.blt t 154 then (bif Nat.blt t 153 then noTi else ti_153) else (bif Nat.blt t 155 then noTi else ti_155)) else (bif Nat.blt t 158 then noTi else (bif Nat.blt t 159 then ti_158 else noTi))))) else (bif Nat.blt t 176 then (bif Nat.blt t 168 then (bif Nat.blt t 164 then (bif Nat.blt t 162 then (bif Nat.blt t 161 then ti_160 else ti_161) else (bif Nat.blt t 163 then ti_162 else noTi)) else (bif Nat.blt t 166 then (bif Nat.blt t 165 then ti_164 else noTi) else noTi)) else (bif Nat.blt t 172 then (bif Nat.blt t 170 then noTi else (bif Nat.blt t 171 then ti_170 else ti_171)) else (bif Nat.blt t 174 then noTi else (bif Nat.blt t 175 then ti_174 else noTi)))) else (bif Nat.blt t 184 then noTi else (bif Nat.blt t 188 then noTi else (bif Nat.blt t 190 then (bif Nat.blt t 189 then ti_188 else noTi) else (bif Nat.blt t 191 then ti_190 else noTi)))))) else (bif Nat.blt t 224 then (bif Nat.blt t 208 then (bif Nat.blt t 200 then (bif Nat.blt t 196 then (bif Nat.blt t 194 then noTi else (bif Nat.blt t 195 then noTi else ti_195)) else (bif Nat.blt t 198 then noTi else (bif Nat.blt t 199 then ti_198 else noTi))) else (bif Nat.blt t 204 then (bif Nat.blt t 202 then noTi else (bif Nat.blt t 203 then ti_202 else noTi)) else (bif Nat.blt t 206 then (bif Nat.blt t 205 then ti_204 else noTi) else noTi))) else (bif Nat.blt t 216 then (bif Nat.blt t 212 then noTi else (bif Nat.blt t 214 then (bif Nat.blt t 213 then ti_212 else noTi) else (bif Nat.blt t 215 then noTi else ti_215))) else (bif Nat.blt t 220 then noTi else (bif Nat.blt t 222 then noTi else (bif Nat.blt t 223 then ti_222 else noTi))))) else (bif Nat.blt t 240 then (bif Nat.blt t 232 then (bif Nat.blt t 228 then (bif Nat.blt t 226 then noTi else (bif Nat.blt t 227 then noTi else ti_227)) else (bif Nat.blt t 230 then noTi else (bif Nat.blt t 231 then noTi else ti_231))) else (bif Nat.blt t 236 then (bif Nat.blt t 234 then noTi else (bif Nat.blt t 235 then noTi else ti_235)) else noTi)) else noTi)))) else noTi
theorem zq1824 (t : Nat) (h : 256 ≤ t) : ty t = noTi := by
 have e : Nat.blt t 256 = false := by
  cases hb : Nat.blt t 256
  ·rfl
  ·have := Nat.le_of_ble_eq_true hb
   omega
 unfold ty
 rw [e]
 rfl
def zq1823 : List Nat := [1,2,3,4,5,6,7,8,9,10,11,12,13,14,15,16,17,18,19,20,21,22,23,24,25,26,27,29,30,31,32,34,36,37,38,39,41,42,43,45,47,51,52,56,61,62,64,68,83,92,96,101,106,116,119,127,136,138,143,145,148,153,155,158,160,161,162,164,170,171,174,188,190,195,198,202,204,212,215,222,227,231,235]
theorem zq1826 : zq1823.map (fun t => ({ ty t with eq := false,k := none,nk := none,sl := [] } : TI)) = zq1823.map (tiOf Tryz.prog) := by kernel_rfl
theorem ty_in : (List.range 256).all (fun t => !(ty t).known || zq1823.contains t) = true := by kernel_rfl
theorem zq1825 (t : Nat) (h : (ty t).known = true) : zq329 Tryz.prog t (ty t) := by
 refine zq1822 h ?_
 have hlt : t < 256 := by
  rcases Nat.lt_or_ge t 256 with h' | h'
  ·exact h'
  ·have : (ty t) = noTi := zq1824 t h'
   rw [this] at h
   cases h
 have h1 := zc17.1 ty_in t (List.mem_range.2 hlt)
 rw [h] at h1
 have hmem : t ∈ zq1823 := by simpa using h1
 have := List.map_inj_left.1 zq1826 t hmem
 exact this
theorem eq_23 : zq328 Tryz.prog 23 (ty 23).zero := zq1796 zq1825 23 (ty 23).zero (by kernel_rfl) (by kernel_rfl) (by kernel_rfl)
theorem eq_32 : zq328 Tryz.prog 32 (ty 32).zero := zq1796 zq1825 32 (ty 32).zero (by kernel_rfl) (by kernel_rfl) (by kernel_rfl)
theorem eq_34 : zq328 Tryz.prog 34 (ty 34).zero := zq1796 zq1825 34 (ty 34).zero (by kernel_rfl) (by kernel_rfl) (by kernel_rfl)
theorem eq_36 : zq328 Tryz.prog 36 (ty 36).zero := zq1796 zq1825 36 (ty 36).zero (by kernel_rfl) (by kernel_rfl) (by kernel_rfl)
theorem eq_38 : zq328 Tryz.prog 38 (ty 38).zero := zq1796 zq1825 38 (ty 38).zero (by kernel_rfl) (by kernel_rfl) (by kernel_rfl)
theorem eq_68 : zq328 Tryz.prog 68 (ty 68).zero := zq1796 zq1825 68 (ty 68).zero (by kernel_rfl) (by kernel_rfl) (by kernel_rfl)
theorem eq_127 : zq328 Tryz.prog 127 (ty 127).zero := zq1796 zq1825 127 (ty 127).zero (by kernel_rfl) (by kernel_rfl) (by kernel_rfl)
def tyEqs : List Nat := [23,32,34,36,38,68,127]
theorem eq_in : (List.range 256).all (fun t => !(ty t).eq || tyEqs.contains t) = true := by kernel_rfl
theorem ty_eq (t : Nat) (h : (ty t).eq = true) : zq328 Tryz.prog t (ty t).zero := by
 have hlt : t < 256 := by
  rcases Nat.lt_or_ge t 256 with h' | h'
  ·exact h'
  ·rw [zq1824 t h'] at h
   cases h
 have h1 := zc17.1 eq_in t (List.mem_range.2 hlt)
 rw [h] at h1
 have hmem : t ∈ tyEqs := by simpa using h1
 simp only [tyEqs,zc28,zc37,or_false] at hmem
 rcases hmem with rfl | rfl | rfl | rfl | rfl | rfl | rfl
 ·exact eq_23
 ·exact eq_32
 ·exact eq_34
 ·exact eq_36
 ·exact eq_38
 ·exact eq_68
 ·exact eq_127
theorem tyOk : TOk Tryz.prog ty := ⟨zq1825,ty_eq,by kernel_rfl⟩
def fnExt : List Nat := [0,1,156,158,172,200,201,202,203,204,205,206,207,208,209,210,211,212,213,214,215]
def fnB (f : Nat) : Bool := decide (f < 216) && !fnExt.contains f
theorem fn_all : (List.range 216).all (fun f => !fnB f || (match Tryz.prog.funcs[f]? with | some fn => fn.body.isSome && !(fn.name == "runtime.NumGoroutine") | none => false)) = true := by kernel_rfl
theorem fn_ok (f : Nat) (h : fnB f = true) : zq6 Tryz.prog f := by
 have hlt : f < 216 := by
  unfold fnB at h
  simp only [zc4,decide_eq_true_eq] at h
  exact h.1
 have h1 := zc17.1 fn_all f (List.mem_range.2 hlt)
 rw [h] at h1
 simp only [zc10,Bool.false_or] at h1
 unfold zq6
 cases hf : Tryz.prog.funcs[f]? with
 | none => rw [hf] at h1; cases h1
 | some fn =>
  rw [hf] at h1
  simp only [zc4,Bool.not_eq_true'] at h1
  exact ⟨fn,rfl,h1.1,h1.2⟩
end Go.Proofs.YtjncjiegmnicbabGreat
namespace Go.Proofs.YtjncjiegmnicbabGreat
open Go Go.Ma Go.RowKit Go.Lib Go.Proofs
theorem zq1589 {P : Program} (w : World) (dT sT ty elem : TypeId) (s : Nat) (b o dLen dCap : Nat) (a : Addr) (sLen sCap q : Nat) (cs : List Value)
  (hu : P.underlying dT = some (.slice elem)) (hs : (P.info? elem).map (·.size) = some s) (hq : q = Nat.min sLen dLen) (hn : cs.length = q * s)
  (hsrc : ∀ j v,cs[j]? = some v → w.cell? (a.add j) = some v) (hc : ∀ j,j < cs.length → (w.cell? ⟨b,o + j,none⟩).isSome = true) (hf : ∀ j,j < cs.length → w.frozen? ⟨b,o + j,none⟩ = false) (h1 : ∀ v ∈ cs,v.oneCell' = true) :
  (Builtin.copy_ #[dT,sT] ty #[.slice (some ⟨b,o,none⟩) dLen dCap,.slice (some a) sLen sCap]).run P w = .ok (goInt q) (w.setCells b o cs) := by
 have hl := run_loadCells_list (P := P) w a cs hsrc
 have hst := run_storeCells_cells (P := P) b o cs 0 w (by simpa using hc) (by simpa using hf) h1
 cases hq' : P.info? elem with
 | none => simp [hq'] at hs
 | some i =>
  have hi : i.size = s := by simpa [hq'] using hs
  rw [hn] at hl
  subst hi
  simp [Builtin.copy_,run_underlying hu,Builtin.lenOf,Builtin.firstCells,sizeOf,typeInfo,hq',← hq,hl,hst]
theorem zq917 : (Tryz.prog.info? 127).map (fun i => (i.zero.map (·.cells.size),i.size,i.bytes)) = some (some 5,5,48) := by kernel_rfl
theorem zq1635 (w : World) : (Go.sizeOf 127).run Tryz.prog w = .ok 5 w := by kernel_rfl
theorem zq1220 : Tryz.prog.follows .mixedOrders = true := by kernel_rfl
set_option maxHeartbeats 4000000 in
set_option maxRecDepth 100000 in
/-- There is room, i < len(s): in place. -/
theorem zq955 (b off n c i vb voff m vc : Nat) (cs vs : List Value) (w : World) (hi : i < n) (hm : 0 < m) (hroom : n + m ≤ c) (hc63 : c ≤ 9223372036854775807) (hvb : vb ≠ b)
  (hcl : cs.length = n * 5) (hvl : vs.length = m * 5)
  (hcs : ∀ j v,cs[j]? = some v → w.cell? ⟨b,off + j,none⟩ = some v) (hsp : ∀ j,j < (n + m) * 5 → (w.cell? ⟨b,off + j,none⟩).isSome = true) (hfz : ∀ j,j < (n + m) * 5 → w.frozen? ⟨b,off + j,none⟩ = false)
  (hvs : ∀ j v,vs[j]? = some v → w.cell? ⟨vb,voff + j,none⟩ = some v) (h1c : ∀ v ∈ cs,v.oneCell' = true) (h1v : ∀ v ∈ vs,v.oneCell' = true)
  (tA tB : TypeId) (kA kB : Nat) (hsa : w.shape? vb = some (tA,kA)) (hsb : w.shape? b = some (tB,kB)) (hkB : kB ≠ 0) (hfa : w.frozen? ⟨vb,voff,none⟩ = false) (hfe : w.frozen? ⟨vb,kA,none⟩ = false) :
  Calls Tryz.prog 165 #[.slice (some ⟨b,off,none⟩) n c,.int .i64 i,.slice (some ⟨vb,voff,none⟩) m vc] w fun e w' =>
   e = .returned (.slice (some ⟨b,off,none⟩) (n + m) c) ∧ w' = (w.drew.setCells b (off + (i + m) * 5) (cs.drop (i * 5))).setCells b (off + i * 5) vs := by
 have u30 := run_underlying Tryz.underlying43
 have z49 := zq1635
 have hz1 : ¬ ((m : Int) = 0) := by omega
 have hz2 : ¬ ((i : Int) = (n : Int)) := by omega
 have hsz : (Tryz.prog.info? 127).map (·.size) = some 5 := by
  obtain ⟨i0,hi0,hz⟩ := zc7.1 zq917
  simp only [zc11] at hz
  rw [hi0]; simp [hz.2.1]
 have hov : ∀ lb cb,(callFunc 172 #[.slice (some ⟨vb,voff,none⟩) m vc,.slice (some ⟨b,off + (i + m) * 5,none⟩) lb cb]).run Tryz.prog w = .ok (.value (.bool false)) w := fun lb cb => by
  rw [run_callFunc_extern Tryz.func172 (by kernel_rfl) (by kernel_rfl) (by kernel_rfl) (e := Extern.SlicesOverlaps.overlaps #[43,43] #[4]) (by kernel_rfl),
   Lib.run_overlaps_apart w 43 4 127 Tryz.underlying43 5 zq1635 ⟨vb,voff,none⟩ ⟨b,off + (i + m) * 5,none⟩ m vc lb cb hvb tA tB kA kB hsa hsb hkB hfa hfe]
  rfl
 have hdl : (cs.drop (i * 5)).length = (n - i) * 5 := by rw [zc40,hcl]; omega
 have mixed := zq1220
 have hw1 : IntKind.i64.wrap ((i : Int) + (m : Int)) = (i : Int) + (m : Int) := by rw [IntKind.wrap_i64]; omega
 have hb1 : (0 : Int) ≤ (i : Int) + (m : Int) := by omega
 have hin : i ≤ n := by omega
 have htn : ((i : Int) + (m : Int)).toNat = i + m := by omega
 have hb2 : ¬ (c = i + m) := by omega
 have hb3 : (i : Int) ≤ (n : Int) + (m : Int) := by omega
 have hb4 : ¬ (c = i) := by omega
 have hcp1 : ∀ ty dc sc,(Builtin.copy_ #[43,43] ty #[.slice (some ⟨b,off + (i + m) * 5,none⟩) (n + m - (i + m)) dc,.slice (some ⟨b,off + i * 5,none⟩) (n + m - i) sc]).run Tryz.prog w.drew = .ok (goInt ((n - i : Nat) : Int)) (w.drew.setCells b (off + (i + m) * 5) (cs.drop (i * 5))) := fun ty dc sc =>
  zq1589 w.drew _ _ ty 127 5 b (off + (i + m) * 5) (n + m - (i + m)) dc ⟨b,off + i * 5,none⟩ (n + m - i) sc (n - i) (cs.drop (i * 5)) Tryz.underlying43 hsz (by simp only [Nat.min_def]; split <;> omega) hdl
   (fun j v hj => by rw [Addr.add_lit,Nat.add_assoc]; exact hcs (i * 5 + j) v (by rwa [zc39] at hj))
   (fun j hj => by rw [Nat.add_assoc]; exact hsp _ (by omega)) (fun j hj => by rw [Nat.add_assoc]; exact hfz _ (by omega)) (fun v hv => h1c v (List.mem_of_mem_drop hv))
 obtain ⟨W1,hW1⟩ : ∃ W1,W1 = w.drew.setCells b (off + (i + m) * 5) (cs.drop (i * 5)) := ⟨_,rfl⟩
 have hsp1 : ∀ k,k < (n + m) * 5 → (W1.cell? ⟨b,off + k,none⟩).isSome = true := fun k hk => by
  rw [hW1]
  exact isSome_setCells b _ _ _ (fun j hj => by rw [Nat.add_assoc]; exact hsp _ (by omega)) _ (hsp k hk)
 have hcp2 : ∀ (W : World),(∀ x,W.cell? x = W1.cell? x) → (∀ x,W.frozen? x = W1.frozen? x) → ∀ ty dc,(Builtin.copy_ #[43,43] ty #[.slice (some ⟨b,off + i * 5,none⟩) (n + m - i) dc,.slice (some ⟨vb,voff,none⟩) m vc]).run Tryz.prog W = .ok (goInt m) (W.setCells b (off + i * 5) vs) := fun W hWc hWf ty dc =>
  zq1589 W _ _ ty 127 5 b (off + i * 5) (n + m - i) dc ⟨vb,voff,none⟩ m vc m vs Tryz.underlying43 hsz (by simp only [Nat.min_def]; split <;> omega) hvl
   (fun j v hj => by
    rw [Addr.add_lit,hWc,hW1,World.cell?_setCells_out b _ _ _ _ (fun h _ => absurd h hvb)]
    exact hvs j v hj)
   (fun j hj => by rw [hWc,Nat.add_assoc]; exact hsp1 _ (by omega)) (fun j hj => by rw [hWf,hW1,World.frozen?_setCells,Nat.add_assoc]; exact hfz _ (by omega)) h1v
 rw [← hW1] at hcp1
 go_enter Tryz.func165,Tryz.ntmps165
 go_wp2_with (simp only [hov])
 go_region_law_o (refine step_copy_runI rfl _ _ 43 43 rfl _ _ (by simp [Act.eval,Act.put]) (by simp [Act.eval,Act.put]) (hcp1 _ _ _) ?_)
 go_wp2_with (at_builtin; refine wpList_copy_runI _ rfl _ _ 43 43 rfl _ _ rfl rfl (hcp2 _ (fun _ => rfl) (fun _ => rfl) _ _) ?_)
 go_ret
 first | exact ⟨rfl,rfl⟩ | exact ⟨rfl,by rw [hW1]⟩
set_option maxHeartbeats 4000000 in
set_option maxRecDepth 100000 in
/-- i < len(s), no room: a new row. -/
theorem zq951 (b off n c i vb voff m vc : Nat) (cs vs : List Value) (z : Value) (hz0 : (Tryz.prog.info? 127).map (·.zero) = some (some z)) (w : World) (hi : i < n) (hm : 0 < m) (hnc : n ≤ c) (hroom : c < n + m) (hbig : (n + m) * 48 ≤ 140737488355328)
  (hcl : cs.length = n * 5) (hvl : vs.length = m * 5)
  (hcs : ∀ j v,cs[j]? = some v → w.cell? ⟨b,off + j,none⟩ = some v)
  (hvs : ∀ j v,vs[j]? = some v → w.cell? ⟨vb,voff + j,none⟩ = some v) (h1c : ∀ v ∈ cs,v.oneCell' = true) (h1v : ∀ v ∈ vs,v.oneCell' = true) :
  Calls Tryz.prog 165 #[.slice (some ⟨b,off,none⟩) n c,.int .i64 i,.slice (some ⟨vb,voff,none⟩) m vc] w fun e w' =>
   e = .returned (.slice (some ⟨w.heap.size,0,none⟩) (n + m) (grownCap w (n + m) c 127)) ∧
   w' = (((w.alloc (.cells ((cs.take (i * 5)).toArray ++ Builtin.zeroCells z.cells (n + m - i) ++ Builtin.zeroCells z.cells (grownCap w (n + m) c 127 - (n + m))) 127)).drew.setCells w.heap.size (i * 5) vs).drew).setCells w.heap.size ((i + m) * 5) (cs.drop (i * 5)) := by
 have u30 := run_underlying Tryz.underlying43
 have z49 := zq1635
 have mixed := zq1220
 obtain ⟨i0,hi0,hz⟩ := zc7.1 zq917
 simp only [zc11] at hz
 obtain ⟨hzc,hzs,hzb⟩ := hz
 have hz0 : i0.zero = some z := by rw [hi0] at hz0; simpa using hz0
 have hzc : z.cells.size = 5 := by rw [hz0] at hzc; simpa using hzc
 have hz1 : ¬ ((m : Int) = 0) := by omega
 have hz2 : ¬ ((i : Int) = (n : Int)) := by omega
 have hz3 : (c : Int) < (n : Int) + (m : Int) := by omega
 have hsz : (Tryz.prog.info? 127).map (·.size) = some 5 := by rw [hi0]; simp [hzs]
 have hbw : b < w.heap.size := block_lt_of_cell (hcs 0 _ (zc0 (by omega)))
 have hvw : vb < w.heap.size := block_lt_of_cell (hvs 0 _ (zc0 (by omega)))
 have hkk : (n : Int) + (m : Int) - (i : Int) = ((n + m - i : Nat) : Int) := by omega
 have hik : i + (n + m - i) = n + m := by omega
 have hold : (Builtin.firstCells i0.size i (.slice (some ⟨b,off,none⟩) i c)).run Tryz.prog w.drew = .ok (cs.take (i * 5)).toArray w.drew := by
  rw [hzs]
  exact run_firstCells_some w.drew 5 i ⟨b,off,none⟩ i c (cs.take (i * 5)) (by rw [zc20]; omega) (fun j v hj => by
   rw [Addr.add_lit]
   rw [zc14] at hj
   split at hj
   ·exact hcs j v hj
   ·cases hj)
 have hrz : ∀ ty,(Builtin.append_ #[43,3] ty #[.slice (some ⟨b,off,none⟩) i c,.int .i64 ((n : Int) + (m : Int) - (i : Int))]).run Tryz.prog w =
   .ok (.slice (some ⟨w.heap.size,0,none⟩) (n + m) (grownCap w (n + m) c 127)) (w.drew.alloc (.cells ((cs.take (i * 5)).toArray ++ Builtin.zeroCells z.cells (n + m - i) ++ Builtin.zeroCells z.cells (grownCap w (n + m) c 127 - (n + m))) 127)) := fun ty => by
  have h := Lib.run_append_grow_zeros w 43 3 ty 127 i0 z .i64 .i64 Tryz.underlying43 Tryz.underlying3 hi0 hz0 (some ⟨b,off,none⟩) i c (cs.take (i * 5)) hold (n + m - i) (by omega) (by omega) (by omega) (by omega) (by rw [hzb]; omega) (by rw [hzb,hik]; exact growslice_fits hroom hbig)
  rw [hik] at h
  rw [hkk]
  exact h
 obtain ⟨G,hG⟩ : ∃ G,G = grownCap w (n + m) c 127 := ⟨_,rfl⟩
 obtain ⟨ROW,hROW⟩ : ∃ ROW : Array Value,ROW = (cs.take (i * 5)).toArray ++ Builtin.zeroCells z.cells (n + m - i) ++ Builtin.zeroCells z.cells (G - (n + m)) := ⟨_,rfl⟩
 rw [← hG] at hrz ⊢
 rw [← hROW] at hrz ⊢
 have hRl : (n + m) * 5 ≤ ROW.size := by
  rw [hROW]
  simp [Builtin.zeroCells,hzc]
  omega
 obtain ⟨W1,hW1⟩ : ∃ W1,W1 = w.drew.alloc (.cells ROW 127) := ⟨_,rfl⟩
 rw [← hW1] at hrz
 have hN : ∀ j,j < (n + m) * 5 → (W1.cell? ⟨w.heap.size,j,none⟩).isSome = true := fun j hj => by
  rw [hW1,World.cell?_alloc_at (w := w.drew) ROW _ w.heap.size j rfl,zc44 (by omega)]; rfl
 have hNf : ∀ j,W1.frozen? ⟨w.heap.size,j,none⟩ = false := fun j => by rw [hW1]; exact World.frozen?_alloc_at (w := w.drew) ROW _ w.heap.size j rfl
 have hOb : ∀ j v,w.cell? ⟨b,j,none⟩ = some v → W1.cell? ⟨b,j,none⟩ = some v := fun j v h => by rw [hW1,World.cell?_alloc_past (w := w.drew) _ b j hbw]; exact h
 have hOv : ∀ j v,w.cell? ⟨vb,j,none⟩ = some v → W1.cell? ⟨vb,j,none⟩ = some v := fun j v h => by rw [hW1,World.cell?_alloc_past (w := w.drew) _ vb j hvw]; exact h
 have hcpA : ∀ (W : World),(∀ x,W.cell? x = W1.cell? x) → (∀ x,W.frozen? x = W1.frozen? x) → ∀ ty dc,(Builtin.copy_ #[43,43] ty #[.slice (some ⟨w.heap.size,i * 5,none⟩) (n + m - i) dc,.slice (some ⟨vb,voff,none⟩) m vc]).run Tryz.prog W = .ok (goInt (m : Int)) (W.setCells w.heap.size (i * 5) vs) := fun W hWc hWf ty dc =>
  zq1589 W _ _ ty 127 5 w.heap.size (i * 5) (n + m - i) dc ⟨vb,voff,none⟩ m vc m vs Tryz.underlying43 hsz (by simp only [Nat.min_def]; split <;> omega) hvl
   (fun j v hj => by rw [Addr.add_lit,hWc]; exact hOv _ v (hvs j v hj))
   (fun j hj => by rw [hWc]; exact hN _ (by omega)) (fun j hj => by rw [hWf]; exact hNf _) h1v
 have hGn : n + m ≤ G := by rw [hG]; exact grownCap_ge w _ _ _
 have hG63 : G ≤ 9223372036854775807 := by
  have := grownCap_le_maxLen w (n + m) c 127 (by unfold maxLen; omega)
  rw [← hG] at this
  unfold maxLen at this
  omega
 have hGi : ¬ (G = i) := by omega
 have hGim : ¬ (G = i + m) := by omega
 have hci : ¬ (c = i) := by omega
 have hbN : b ≠ w.heap.size := by omega
 have hdl : (cs.drop (i * 5)).length = (n - i) * 5 := by rw [zc40,hcl]; omega
 have hcpB : ∀ (W : World),(∀ x,W.cell? x = (W1.setCells w.heap.size (i * 5) vs).cell? x) → (∀ x,W.frozen? x = (W1.setCells w.heap.size (i * 5) vs).frozen? x) → ∀ ty dc sc,(Builtin.copy_ #[43,43] ty #[.slice (some ⟨w.heap.size,(i + m) * 5,none⟩) (n + m - (i + m)) dc,.slice (some ⟨b,off + i * 5,none⟩) (n - i) sc]).run Tryz.prog W = .ok (goInt ((n - i : Nat) : Int)) (W.setCells w.heap.size ((i + m) * 5) (cs.drop (i * 5))) := fun W hWc hWf ty dc sc =>
  zq1589 W _ _ ty 127 5 w.heap.size ((i + m) * 5) (n + m - (i + m)) dc ⟨b,off + i * 5,none⟩ (n - i) sc (n - i) (cs.drop (i * 5)) Tryz.underlying43 hsz (by simp only [Nat.min_def]; split <;> omega) hdl
   (fun j v hj => by
    rw [Addr.add_lit,hWc,World.cell?_setCells_out _ _ _ _ _ (fun h _ => absurd h hbN),Nat.add_assoc]
    exact hOb _ v (hcs (i * 5 + j) v (by rwa [zc39] at hj)))
   (fun j hj => by rw [hWc]; exact isSome_setCells _ _ _ _ (fun t ht => hN _ (by omega)) _ (hN _ (by omega)))
   (fun j hj => by rw [hWf,World.frozen?_setCells]; exact hNf _) (fun v hv => h1c v (List.mem_of_mem_drop hv))
 subst hW1
 have hE1 : ∀ x,((w.alloc (.cells ROW 127)).drew).cell? x = (w.drew.alloc (.cells ROW 127)).cell? x := fun x => rfl
 have hE2 : ∀ x,((w.alloc (.cells ROW 127)).drew).frozen? x = (w.drew.alloc (.cells ROW 127)).frozen? x := fun x => rfl
 have hF1 : ∀ x,(((w.alloc (.cells ROW 127)).drew.setCells w.heap.size (i * 5) vs).drew).cell? x = ((w.drew.alloc (.cells ROW 127)).setCells w.heap.size (i * 5) vs).cell? x := fun x => rfl
 have hF2 : ∀ x,(((w.alloc (.cells ROW 127)).drew.setCells w.heap.size (i * 5) vs).drew).frozen? x = ((w.drew.alloc (.cells ROW 127)).setCells w.heap.size (i * 5) vs).frozen? x := fun x => rfl
 have hw1 : IntKind.i64.wrap ((i : Int) + (m : Int)) = (i : Int) + (m : Int) := by rw [IntKind.wrap_i64]; omega
 have hb1 : (0 : Int) ≤ (i : Int) + (m : Int) := by omega
 have hin : i ≤ n := by omega
 have htn : ((i : Int) + (m : Int)).toNat = i + m := by omega
 have hb3 : (i : Int) ≤ (n : Int) := by omega
 clear hkk hik hold hROW hG hRl
 go_enter Tryz.func165,Tryz.ntmps165
 go_wp2_with (first
  | (at_builtin; refine Lib.wpList_append_run _ rfl _ _ _ _ rfl _ _ rfl rfl _ _ (hrz _) ?_)
  | (at_builtin; refine wpList_copy_runI _ rfl _ _ 43 43 rfl _ _ rfl rfl (hcpA _ hE1 hE2 _ _) ?_)
  | (at_builtin; refine wpList_copy_runI _ rfl _ _ 43 43 rfl _ _ rfl rfl (hcpB _ (fun _ => rfl) (fun _ => rfl) _ _ _) ?_))
 go_region_law_o (refine step_copy_runI rfl _ _ 43 43 rfl (.slice (some ⟨w.heap.size,(i + m) * 5,none⟩) (n + m - (i + m)) (G - (i + m))) (.slice (some ⟨b,off + i * 5,none⟩) (n - i) (c - i)) (by simp [Act.eval,Act.put]) (by simp [Act.eval,Act.put]) (hcpB _ hF1 hF2 3 (G - (i + m)) (c - i)) ?_)
 go_wp2
 go_ret
 exact ⟨rfl,rfl⟩
set_option maxHeartbeats 4000000 in
set_option maxRecDepth 100000 in
/-- At the end: whatever append does. -/
theorem zq949 (v : Value) (base : Option Addr) (n c : Nat) (vb vc m : Nat) (v' : Value) (w w' : World) (hm : 0 < m) (hnc : n ≤ c)
  (hrun : ∀ ty,(Builtin.append_ #[43,43] ty #[.slice base n c,.slice (some ⟨vb,0,none⟩) m vc]).run Tryz.prog w = .ok v' w') (hsl : ∃ A N C,v' = .slice A N C) (hnil : base = none → n = 0) :
  Calls Tryz.prog 165 #[.slice base n c,.int .i64 n,.slice (some ⟨vb,0,none⟩) m vc] w fun e w2 => e = .returned v' ∧ w2 = w' := by
 have u30 := run_underlying Tryz.underlying43
 have z49 := zq1635
 have mixed := zq1220
 have hz1 : ¬ ((m : Int) = 0) := by omega
 obtain ⟨A,N,C,rfl⟩ := hsl
 go_enter Tryz.func165,Tryz.ntmps165
 cases base with
 | none =>
  have h0 := hnil rfl
  subst h0
  go_wp2_with (at_builtin; refine Lib.wpList_append_run _ rfl _ _ _ _ rfl _ _ rfl rfl _ _ (hrun _) ?_)
  all_goals (go_ret; exact ⟨rfl,rfl⟩)
 | some a =>
  obtain ⟨ab,ao,asp⟩ := a
  go_wp2_with (at_builtin; refine Lib.wpList_append_run _ rfl _ _ _ _ rfl _ _ rfl rfl _ _ (hrun _) ?_)
  all_goals (go_ret; exact ⟨rfl,rfl⟩)
theorem zq947 {arr : Array Value} {n i : Nat} {cs xs : List Value} (hi : i < n) (hcl : cs.length = n * 5) (hxl : xs.length = 5) (hsz : (n + 1) * 5 ≤ arr.size) (h0 : ∀ q,q < i * 5 → arr[q]? = cs[q]?) :
  (zq1605 (zq1605 arr ((i + 1) * 5) (cs.drop (i * 5))) (i * 5) xs).toList.take ((n + 1) * 5) = cs.take (i * 5) ++ xs ++ cs.drop (i * 5) ∧
  (zq1605 (zq1605 arr (i * 5) xs) ((i + 1) * 5) (cs.drop (i * 5))).toList.take ((n + 1) * 5) = cs.take (i * 5) ++ xs ++ cs.drop (i * 5) := by
 have hdl : (cs.drop (i * 5)).length = (n - i) * 5 := by rw [zc40,hcl]; omega
 have hrhs : ∀ q : Nat,(cs.take (i * 5) ++ xs ++ cs.drop (i * 5))[q]? = if q < i * 5 then cs[q]? else if q < (i + 1) * 5 then xs[q - i * 5]? else (cs.drop (i * 5))[q - (i + 1) * 5]? := by
  intro q
  rw [List.append_assoc,zc29,zc20,Nat.min_eq_left (by omega)]
  split
  ·rw [zc14,if_pos (by assumption)]
  ·rw [zc29,hxl]
   by_cases hq : q < (i + 1) * 5
   ·rw [if_pos (by omega),if_pos hq]
   ·rw [if_neg (by omega),if_neg hq]
    congr 1
    omega
 constructor
 ·apply List.ext_getElem?
  intro q
  rw [hrhs,zc14]
  by_cases hq : q < (n + 1) * 5
  ·rw [if_pos hq,zc25,zq1606 _ _ _ _ (by rw [zq1607]; omega)]
   by_cases h1 : q < i * 5
   ·rw [if_neg (by omega),if_pos h1,zq1606 _ _ _ _ (by omega),if_neg (by omega),h0 q h1]
   ·rw [if_neg h1]
    by_cases h2 : q < (i + 1) * 5
    ·rw [if_pos (by omega),if_pos h2]
    ·rw [if_neg (by omega),if_neg h2,zq1606 _ _ _ _ (by omega),if_pos (by omega)]
  ·rw [if_neg hq,if_neg (by omega),if_neg (by omega),zc22 (by omega)]
 ·apply List.ext_getElem?
  intro q
  rw [hrhs,zc14]
  by_cases hq : q < (n + 1) * 5
  ·rw [if_pos hq,zc25,zq1606 _ _ _ _ (by rw [zq1607]; omega)]
   by_cases h1 : q < i * 5
   ·rw [if_neg (by omega),if_pos h1,zq1606 _ _ _ _ (by omega),if_neg (by omega),h0 q h1]
   ·rw [if_neg h1]
    by_cases h2 : q < (i + 1) * 5
    ·rw [if_neg (by omega),if_pos h2,zq1606 _ _ _ _ (by omega),if_pos (by omega)]
    ·rw [if_pos (by omega),if_neg h2]
  ·rw [if_neg hq,if_neg (by omega),if_neg (by omega),zc22 (by omega)]
theorem zq953 (base : Nat) (w : World) (v u : Value) (n i : Nat) (cs xs : List Value) (h1 : w.ownsRow base 127 5 v n cs) (h2 : w.ownsRow base 127 5 u 1 xs) (hap : ∀ b,v.ownBlock = some b → u.ownBlock ≠ some b) (hc1 : ∀ x ∈ cs,oneC x = true) (hc2 : ∀ x ∈ xs,oneC x = true)
  (hbase : base ≤ w.heap.size) (hin : i ≤ n) (hbig : n + 1 ≤ 274877906944) :
  Calls Tryz.prog 165 #[v,.int .i64 (i : Int),u] w fun r w' => ∃ v',r = .returned v' ∧ w'.ownsRow base 127 5 v' (n + 1) (cs.take (i * 5) ++ xs ++ cs.drop (i * 5)) ∧ w.grownBy w' v.ownBlock ∧ (∀ b,v'.ownBlock = some b → v.ownBlock = some b ∨ w.heap.size ≤ b) := by
 obtain ⟨i0,hi0,hz⟩ := zc7.1 zq917
 simp only [zc11] at hz
 obtain ⟨hzc,hzs,hzb⟩ := hz
 obtain ⟨z,hz0,hzc⟩ := zc7.1 hzc
 have hcl := h1.1
 have hxl : xs.length = 5 := by have := h2.1; omega
 rcases h2.2 with ⟨_,h0⟩ | ⟨vb,vc,curv,rfl,hvbase,hvheap,hvc,hvcm,hvsz,hvtake⟩
 ·cases h0
 have hvs : ∀ j x,xs[j]? = some x → w.cell? ⟨vb,0 + j,none⟩ = some x := by
  intro j x hj
  rw [Nat.zero_add,zq543 hvheap,← zc25]
  rw [← hvtake,zc14] at hj
  split at hj
  ·exact hj
  ·cases hj
 have h1v : ∀ x ∈ xs,x.oneCell' = true := fun x hx => zq1279 (hc2 x hx)
 have h1c : ∀ x ∈ cs,x.oneCell' = true := fun x hx => zq1279 (hc1 x hx)
 by_cases hine : i = n
 ·subst hine
  have htd : cs.take (i * 5) ++ xs ++ cs.drop (i * 5) = cs ++ xs := by rw [List.take_of_length_le (by omega),zc18 (by omega),List.append_nil]
  rw [htd]
  have hown5 : w.ownsRow base 127 i0.size v i cs := by rw [hzs]; exact h1
  obtain ⟨v',w',hrun,hown',hgb,hblk⟩ := zq458 (P := Tryz.prog) w base 43 0 127 i0 z Tryz.underlying43 hi0 hz0 (by rw [hzs]; exact hzc) (by omega) v i cs hown5 (some ⟨vb,0,none⟩) 1 vc xs (by rw [hzs]; omega) (by simp)
   (fun ad had j x hj => by
    cases had
    rw [zq395]
    exact hvs j x hj) h1v (by unfold maxLen; omega) (by rw [hzb]; omega) hbase
  have hrun' : ∀ ty,(Builtin.append_ #[43,43] ty #[v,.slice (some ⟨vb,0,none⟩) 1 vc]).run Tryz.prog w = .ok v' w' := fun ty => by
   rw [← hrun]
   rfl
  rw [hzs] at hown'
  have hsl : ∃ A N C,v' = .slice A N C := by
   rcases hown'.2 with ⟨h,_⟩ | ⟨g,cp,cur,h,_⟩
   ·exact ⟨_,_,_,h⟩
   ·exact ⟨_,_,_,h⟩
  have hv : ∃ A c,v = .slice A i c ∧ i ≤ c ∧ (A = none → i = 0) := by
   rcases h1.2 with ⟨h,h0⟩ | ⟨g,cp,cur,h,_,_,hc,_⟩
   ·exact ⟨none,0,by rw [h,h0],by omega,fun _ => h0⟩
   ·exact ⟨_,cp,h,hc,fun h => by cases h⟩
  obtain ⟨A,c,rfl,hc,hnil⟩ := hv
  refine (zq949 (.slice A i c) A i c vb vc 1 v' w w' (by omega) hc hrun' hsl hnil).mono ?_
  rintro e w2 ⟨rfl,rfl⟩
  exact ⟨v',rfl,hown',hgb,hblk⟩
 ·have hi : i < n := by omega
  rcases h1.2 with ⟨_,h0⟩ | ⟨g,cap,cur,rfl,hgbase,hgheap,hnc,hcm,hgsz,hgtake⟩
  ·omega
  have hvbg : vb ≠ g := fun e => hap g rfl (by rw [e]; rfl)
  have hcs : ∀ j x,cs[j]? = some x → w.cell? ⟨g,0 + j,none⟩ = some x := by
   intro j x hj
   rw [Nat.zero_add,zq543 hgheap,← zc25]
   rw [← hgtake,zc14] at hj
   split at hj
   ·exact hj
   ·cases hj
  by_cases hroom : n + 1 ≤ cap
  ·refine (zq955 g 0 n cap i vb 0 1 vc cs xs w hi (by omega) hroom (by unfold maxLen at hcm; omega) hvbg hcl (by omega) hcs
    (fun j hj => by rw [Nat.zero_add,zq543 hgheap,zc44 (by omega)]; rfl) (fun j hj => by simp [World.frozen?,hgheap]) hvs h1c h1v 127 127 curv.size cur.size
    (by simp [World.shape?,hvheap]) (by simp [World.shape?,hgheap]) (by omega) (by simp [World.frozen?,hvheap]) (by simp [World.frozen?,hvheap])).mono ?_
   rintro e w' ⟨rfl,rfl⟩
   have hg0 : w.drew.heap[g]? = some (.cells cur 127 (0,0)) := hgheap
   obtain ⟨a1,a2,a3,a4,a5,a6⟩ := zq1609 w.drew g (0 + (i + 1) * 5) (cs.drop (i * 5)) cur 127 (0,0) hg0
   obtain ⟨b1,b2,b3,b4,b5,b6⟩ := zq1609 _ g (0 + i * 5) xs _ 127 (0,0) a1
   have hdl : (cs.drop (i * 5)).length = (n - i) * 5 := by rw [zc40,hcl]; omega
   refine ⟨_,rfl,⟨?_,.inr ⟨g,cap,_,rfl,hgbase,b1,hroom,hcm,by rw [zq1607,zq1607]; exact hgsz,?_⟩⟩,⟨b4.trans a4,b5.trans a5,b6.trans a6,by rw [b3,a3]; exact zc47 _,fun k hk hne => ?_⟩,fun b hb => .inl hb⟩
   ·simp only [zc24,zc20,hdl,hxl]; omega
   ·rw [Nat.zero_add,Nat.zero_add]
    refine (zq947 hi hcl hxl (by omega) fun q hq => ?_).1
    rw [← hgtake,zc14,if_pos (by omega),zc25]
   ·have hkg : k ≠ g := fun e => hne (by rw [e]; rfl)
    exact (b2 k hkg).trans (a2 k hkg)
  ·refine (zq951 g 0 n cap i vb 0 1 vc cs xs z (by rw [hi0]; simp [hz0]) w hi (by omega) hnc (by omega) (by omega) hcl (by omega) hcs hvs h1c h1v).mono ?_
   rintro e w' ⟨rfl,rfl⟩
   obtain ⟨G,hG⟩ : ∃ G,G = grownCap w (n + 1) cap 127 := ⟨_,rfl⟩
   have hGn : n + 1 ≤ G := by rw [hG]; exact grownCap_ge w _ _ _
   have hG63 : G ≤ maxLen := by rw [hG]; exact grownCap_le_maxLen w (n + 1) cap 127 (by unfold maxLen; omega)
   rw [← hG]
   obtain ⟨ROW,hROW⟩ : ∃ ROW : Array Value,ROW = (cs.take (i * 5)).toArray ++ Builtin.zeroCells z.cells (n + 1 - i) ++ Builtin.zeroCells z.cells (G - (n + 1)) := ⟨_,rfl⟩
   rw [← hROW]
   have hRs : ROW.size = G * 5 := by
    rw [hROW]
    simp [Builtin.zeroCells,hzc]
    omega
   have hR0 : ∀ q,q < i * 5 → ROW[q]? = cs[q]? := fun q hq => by
    rw [hROW,Array.append_assoc,Array.getElem?_append_left (by simp; omega)]
    simp only [List.getElem?_toArray,zc14,if_pos hq]
   have hh : ((w.alloc (.cells ROW 127)).drew).heap[w.heap.size]? = some (.cells ROW 127 (0,0)) := by
    show (w.heap.push _)[w.heap.size]? = _
    exact Array.getElem?_push_size
   obtain ⟨a1,a2,a3,a4,a5,a6⟩ := zq1609 _ w.heap.size (i * 5) xs ROW 127 (0,0) hh
   have a1' : (((w.alloc (.cells ROW 127)).drew.setCells w.heap.size (i * 5) xs).drew).heap[w.heap.size]? = _ := a1
   obtain ⟨b1,b2,b3,b4,b5,b6⟩ := zq1609 _ w.heap.size ((i + 1) * 5) (cs.drop (i * 5)) _ 127 (0,0) a1'
   have hdl : (cs.drop (i * 5)).length = (n - i) * 5 := by rw [zc40,hcl]; omega
   have hold : ∀ k,k < w.heap.size → ((w.alloc (.cells ROW 127)).drew).heap[k]? = w.heap[k]? := fun k hk => by
    show (w.heap.push _)[k]? = _
    rw [Array.getElem?_push,if_neg (by omega)]
   refine ⟨_,rfl,⟨?_,.inr ⟨w.heap.size,G,_,rfl,hbase,b1,hGn,hG63,by rw [zq1607,zq1607]; exact hRs,?_⟩⟩,⟨b4.trans a4,b5.trans a5,b6.trans a6,?_,fun k hk hne => ?_⟩,fun b hb => .inr ?_⟩
   ·simp only [zc24,zc20,hdl,hxl]; omega
   ·exact (zq947 hi hcl hxl (by omega) hR0).2
   ·rw [b3]
    show w.heap.size ≤ ((w.alloc (.cells ROW 127)).drew.setCells w.heap.size (i * 5) xs).heap.size
    rw [a3]
    show w.heap.size ≤ (w.heap.push _).size
    simp
   ·exact ((b2 k (by omega)).trans (a2 k (by omega))).trans (hold k hk)
   ·cases hb
    exact zc47 _
def zq1672 : Con := zq931 .lease 127
theorem zq1673 : TrOk Tryz.prog 165 zq1672 := zq954 .lease 127 zq953
end Go.Proofs.YtjncjiegmnicbabGreat
