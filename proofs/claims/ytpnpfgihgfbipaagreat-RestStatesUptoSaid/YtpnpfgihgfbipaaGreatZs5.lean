/-
  Parts: Li Lo Ca Cf Ph Ce Pi Pj Pk Cb Cd Lm Pd Pe Pg Sa Cc Sb Sc Sd Se Sf Sg Sh Si Sj Sk Ya.
-/
import Derived.Test.YtpnpfgihgfbipaaGreatZs4
set_option linter.unusedVariables false
set_option linter.unusedSimpArgs false
open List renaming getElem?_eq_getElem → zc0,getElem?_eq_some_iff → zc1,getD_eq_getElem?_getD → zc3,mem_of_getElem? → zc5,getElem?_cons_zero → zc13,getElem?_take → zc14,getElem?_set_ne → zc15,drop_of_length_le → zc18,length_take → zc20,length_cons → zc21,getElem?_eq_none → zc22,getElem?_set_self → zc23,length_append → zc24,take_succ_eq_append_getElem → zc26,mem_cons → zc28,mem_iff_getElem? → zc30,length_nil → zc32,getElem?_cons_succ → zc35,mem_append → zc36,mem_singleton → zc37,getElem?_drop → zc38,nil_append → zc41,length_set → zc42,pairwise_cons → zc44
open Option.some renaming injEq → zc2
open Bool renaming and_eq_true → zc4,not_true → zc10,false_eq_true → zc16,not_false → zc19
open Prod.mk renaming injEq → zc11
open Int renaming toNat_natCast → zc40
open Nat renaming le_refl → zc46
open Decidable renaming not_not → zc48
noncomputable section
namespace Go.Ma
open Go
theorem zq247 {kp : List Ad} (hlen : kp.length ≤ 1048576) (a : Ad) : zq249 kp a = some (kp.any (fun x => decide (a = x)),()):=by
 unfold zq249
 have:=zq1015 (step:=zq241) (fun i => (((),(),((i : Int),()),()),(kp,(a,()),()))) kp.length (fun i => some (if (kp.drop i).any (fun x => decide (a = x)) = true then Sum.inl (((true,()),()),(kp,())) else Sum.inr ((),(kp,())))) (fun rec i hi hr => ?_) (fun rec => ?_) FUEL 0 (Nat.zero_le _) (zq651 (by omega))
 ·rw [show ((0 : Nat) : Int) = 0 from rfl,List.drop_zero] at this
  rw [this,zq415]
  cases kp.any (fun x => decide (a = x)) <;> rfl
 ·obtain ⟨e,he⟩ : ∃ e,kp[i]? = some e:=⟨_,zc0 hi⟩
  simp only [zq241]
  rw [decide_eq_true (show (i : Int) < lenL kp by unfold lenL;omega),zq445,zq1398 (zq699 (by omega) (by unfold lenL;omega)),zq657 he,zq415,zq588,zq568 he,List.any_cons]
  by_cases hc : e = a
  ·subst hc
   simp only [decide_true,zq445,Bool.true_or,if_true]
  ·have hc' : ¬ a = e:=fun h => hc h.symm
   simp only [hc,hc',decide_false,zq443,Bool.false_or]
   rw [show ((i : Int) + 1) = ((i + 1 : Nat) : Int) by omega,zq1398 (zq693 (by omega) (by omega)),hr]
 ·simp only [zq241]
  rw [decide_eq_false (show ¬ (kp.length : Int) < lenL kp by unfold lenL;omega),zq443,zc18 (zc46 _)]
  rfl
abbrev Q4:=Bool × Int × Int × Int × Unit
theorem zq992 {b : List Ls} (hlen : b.length ≤ 1048576) (who : ByteArray) (now ttl n : Int) (kp : List Ad) (l g : List Ls) (q : Q4) (a0 a : Ad) :
  loopN zq120 FUEL (((who,()),(now,()),(ttl,()),(),(),(),(),(),(n,()),(false,()),(0,()),()),(kp,l,q,(a0,()),b,g,(a,()),())) =
   some (((who,()),(now,()),(ttl,()),(),(),(),(),(),(n,()),(b.any (fun x => decide (x.ad = a)),()),()),(kp,l,q,(a0,()),b,g,(a,()),())):=by
 obtain ⟨q1,q2,q3,q4,_⟩:=q
 have:=zq1015 (step:=zq120) (fun i => (((who,()),(now,()),(ttl,()),(),(),(),(),(),(n,()),((b.take i).any (fun x => decide (x.ad = a)),()),((i : Int),()),()),(kp,l,((q1,q2,q3,q4,()) : Q4),(a0,()),b,g,(a,()),()))) b.length
  (fun i => some (((who,()),(now,()),(ttl,()),(),(),(),(),(),(n,()),(b.any (fun x => decide (x.ad = a)),()),()),(kp,l,((q1,q2,q3,q4,()) : Q4),(a0,()),b,g,(a,()),()))) (fun rec i hi hr => ?_) (fun rec => ?_) FUEL 0 (Nat.zero_le _) (zq651 (by omega))
 ·exact this
 ·obtain ⟨e,he⟩ : ∃ e,b[i]? = some e:=⟨_,zc0 hi⟩
  have r1 : zq697 (i : Int) (lenL b) = true:=zq699 (by omega) (by unfold lenL;omega)
  simp only [zq120]
  rw [decide_eq_true (show (i : Int) < lenL b by unfold lenL;omega),zq445]
  simp only [r1,zq1400,zq657 he,zq415,br_ss,zq588]
  have : (b.take (i + 1)).any (fun x => decide (x.ad = a)) = bif (b.take i).any (fun x => decide (x.ad = a)) then true else decide (e.ad = a):=by
   rw [zq1685 he,List.any_append]
   simp only [List.any_cons,List.any_nil,Bool.or_false]
   cases (b.take i).any (fun x => decide (x.ad = a)) <;> rfl
  rw [← this,show ((i : Int) + 1) = ((i + 1 : Nat) : Int) by omega,zq1398 (zq693 (by omega) (by omega)),hr]
 ·simp only [zq120]
  rw [decide_eq_false (show ¬ (b.length : Int) < lenL b by unfold lenL;omega),zq443,List.take_of_length_le (zc46 _)]
def insSt (b : List Ls) (x : Ls) (k : Nat) : Bool × List Ls:=if k ≤ posF x.ad b then (false,b.take k) else (true,b.take (posF x.ad b) ++ x :: (b.drop (posF x.ad b)).take (k - posF x.ad b))
theorem zq741 {b : List Ls} (hb : lsIn b) (hc : ∀ y ∈ b,chkLs y = 0) (hs : ascL b = true) (hlen : b.length ≤ 20) {x : Ls} (hx : x.ad.In) (cx : chkA x.ad = 0) (hne : b.any (fun y => decide (y.ad = x.ad)) = false) (kp : List Ad) (l : List Ls) (a0 : Ad) :
  loopN zq123 FUEL (((),(),(),(),(),(false,()),(0,()),()),(kp,l,(a0,()),b,([] : List Ls),(x.ad,()),(x,()),())) =
   some (((),(),(),(),((insSt b x b.length).1,()),()),(kp,l,(a0,()),(insSt b x b.length).2,(x.ad,()),(x,()),())):=by
 have hp:=zq1235 x.ad b
 have hlen2 : ∀ k,k ≤ b.length → (insSt b x k).2.length ≤ 21:=fun k hk => by
  unfold insSt
  split
  ·simp;omega
  ·simp;omega
 have:=zq1015 (step:=zq123) (fun i => (((),(),(),(),(),((insSt b x i).1,()),((i : Int),()),()),(kp,l,(a0,()),b,(insSt b x i).2,(x.ad,()),(x,()),()))) b.length
  (fun i => some (((),(),(),(),((insSt b x b.length).1,()),()),(kp,l,(a0,()),(insSt b x b.length).2,(x.ad,()),(x,()),()))) (fun rec i hi hr => ?_) (fun rec => ?_) FUEL 0 (Nat.zero_le _) (zq651 (by omega))
 ·have h0 : insSt b x 0 = (false,[]):=by unfold insSt;rw [if_pos (Nat.zero_le _)];rfl
  rw [h0] at this
  exact this
 ·obtain ⟨e,he⟩ : ∃ e,b[i]? = some e:=⟨_,zc0 hi⟩
  have hm:=zc5 he
  have r1 : zq697 (i : Int) (lenL b) = true:=zq699 (by omega) (by unfold lenL;omega)
  have hl2:=hlen2 i (by omega)
  have hpi:=zq1238 hx hb hs he
  have hah : zq355 x.ad e.ad = !decide (ordA e.ad x.ad < 0):=by
   have hne2 : e.ad ≠ x.ad:=fun h => by
    have:=List.any_eq_false.1 hne e hm
    simp [h] at this
   have h1:=zq1181 (hb e hm).1 hx
   rw [zq361 hx (hb e hm).1]
   have h2 : rank e.ad ≠ rank x.ad:=fun h => hne2 (zq1347 (hb e hm).1 hx h)
   by_cases h3 : ordA e.ad x.ad < 0
   ·have:=h1.1.1 h3
    rw [decide_eq_true h3,decide_eq_false (by omega)]
    rfl
   ·have : ¬ rank e.ad < rank x.ad:=fun h => h3 (h1.1.2 h)
    rw [decide_eq_false h3,decide_eq_true (by omega)]
    rfl
  simp only [zq123]
  rw [decide_eq_true (show (i : Int) < lenL b by unfold lenL;omega),zq445]
  simp only [r1,zq1400,zq657 he,zq415,zq153 hx (hb e hm).1 cx (zq481 (hc e hm)).1,hah]
  have i1 : i64ok ((i : Int) + 1) = true:=zq693 (by omega) (by omega)
  have rm : ∀ (y : Ls) (z : List Ls),z.length ≤ 22 → room (lenL z) (lenL ([y] : List Ls)) = true:=fun y z hz => zq1424 (zq993 _) (zq993 _) (by unfold lenL;simp only [zc21,zc32];omega)
  rw [show ((i : Int) + 1) = ((i + 1 : Nat) : Int) by omega] at i1 ⊢
  have rm1:=rm x (insSt b x i).2 (by omega)
  have rm2:=rm e (insSt b x i).2 (by omega)
  have rm3:=rm e ((insSt b x i).2 ++ [x]) (by simp;omega)
  simp only [i1,rm1,rm2,rm3,zq1400]
  by_cases h1 : i ≤ posF x.ad b
  ·have e1 : insSt b x i = (false,b.take i):=by unfold insSt;rw [if_pos h1]
   rw [e1]
   simp only [zc19,zq445,zq415]
   by_cases h2 : i < posF x.ad b
   ·have e2 : insSt b x (i + 1) = (false,b.take (i + 1)):=by unfold insSt;rw [if_pos (by omega)]
    rw [decide_eq_true (hpi.2 h2),zc10,zq443,← zq1685 he]
    rw [e2] at hr
    exact hr
   ·have hpe : posF x.ad b = i:=by omega
    have e2 : insSt b x (i + 1) = (true,(b.take i ++ [x]) ++ [e]):=by
     unfold insSt
     rw [if_neg (by omega),hpe,show i + 1 - i = 1 by omega,zq568 he]
     simp
    rw [decide_eq_false (fun h => h2 (hpi.1 h)),zc19,zq445]
    rw [e2] at hr
    exact hr
  ·have e1 : insSt b x i = (true,b.take (posF x.ad b) ++ x :: (b.drop (posF x.ad b)).take (i - posF x.ad b)):=by unfold insSt;rw [if_neg h1]
   have e2 : insSt b x (i + 1) = (true,(b.take (posF x.ad b) ++ x :: (b.drop (posF x.ad b)).take (i - posF x.ad b)) ++ [e]):=by
    unfold insSt
    rw [if_neg (by omega),show i + 1 - posF x.ad b = i - posF x.ad b + 1 by omega]
    have : (b.drop (posF x.ad b))[i - posF x.ad b]? = some e:=by
     rw [zc38,show posF x.ad b + (i - posF x.ad b) = i by omega,he]
    rw [zq1685 this]
    simp
   rw [e2] at hr
   rw [e1]
   simp only [zc10,zq443,zq415]
   exact hr
 ·simp only [zq123]
  rw [decide_eq_false (show ¬ (b.length : Int) < lenL b by unfold lenL;omega),zq443]
theorem zq737 (b : List Ls) (x : Ls) : (bif (insSt b x b.length).1 then (insSt b x b.length).2 else (insSt b x b.length).2 ++ [x]) = insAt b x:=by
 have:=zq1235 x.ad b
 unfold insSt insAt
 by_cases h : b.length ≤ posF x.ad b
 ·have e : posF x.ad b = b.length:=by omega
  rw [if_pos h,e]
  simp
 ·rw [if_neg h]
  simp only [cond_true]
  rw [List.take_of_length_le (l:=b.drop (posF x.ad b)) (by simp)]
theorem zq688 {p : Pf} (hp : p.In) (cp : chkP p = 0) (hn : ((wid p.ad.v6 : Nat) : Int) - p.bits ≤ 4) {i : Nat} : holds p (addrI p i) = decide (i < 2 ^ zq647 p):=by
 obtain ⟨n1,n2,n3,n4⟩:=zq1066 hp cp hn
 have hpp:=Nat.two_pow_pos (zq647 p)
 unfold holds addrI
 rw [show (ofNum p.ad.v6 (p.ad.num + i)).v6 = p.ad.v6 from rfl,beq_self_eq_true,Bool.true_and]
 refine decide_eq_decide.2 ?_
 unfold cutA
 rw [zq1094,show (ofNum p.ad.v6 (p.ad.num + i)).v6 = p.ad.v6 from rfl]
 show ofNum p.ad.v6 (cutN (p.ad.num + i) (zq647 p)) = p.ad ↔ _
 have hq : cutN (p.ad.num + i) (zq647 p) = p.ad.num ↔ i < 2 ^ zq647 p:=by
  unfold cutN
  obtain ⟨m,hm⟩:=Nat.dvd_of_mod_eq_zero n3
  rw [hm,Nat.mul_add_div hpp]
  constructor
  ·intro h
   have h1 : i / 2 ^ zq647 p = 0:=by
    rw [Nat.mul_comm (2 ^ zq647 p) m] at h
    have:=Nat.eq_of_mul_eq_mul_right hpp h
    omega
   rcases Nat.div_eq_zero_iff.1 h1 with h2 | h2
   ·omega
   ·exact h2
  ·intro h
   rw [Nat.div_eq_of_lt h,Nat.add_zero,Nat.mul_comm]
 rw [← hq]
 constructor
 ·intro h
  have:=congrArg Ad.num h
  rwa [zq1094] at this
 ·intro h
  rw [h,zq1104 _ hp.1.wf]
def hitB (p : Pf) (kp : List Ad) (b : List Ls) (i : Nat) : Bool:=decide (i < 2 ^ zq647 p) && !zq1688 kp b (addrI p i)
theorem zq687 {p : Pf} (n2 : 2 ^ zq647 p ≤ 16) (kp : List Ad) (b : List Ls) : ((List.range' 0 16).find? (hitB p kp b)).map (addrI p) = zq648 p kp b:=by
 unfold zq648
 rw [List.find?_map]
 congr 1
 have hr : List.range' 0 16 = List.range (2 ^ zq647 p) ++ List.range' (2 ^ zq647 p) (16 - 2 ^ zq647 p):=by
  have h1 : List.range' 0 (2 ^ zq647 p) ++ List.range' (0 + 2 ^ zq647 p) (16 - 2 ^ zq647 p) = List.range' 0 (2 ^ zq647 p + (16 - 2 ^ zq647 p)):=List.range'_append_1
  rw [Nat.zero_add,show 2 ^ zq647 p + (16 - 2 ^ zq647 p) = 16 by omega] at h1
  rw [List.range_eq_range',h1]
 rw [hr,List.find?_append]
 have h2 : (List.range' (2 ^ zq647 p) (16 - 2 ^ zq647 p)).find? (hitB p kp b) = none:=by
  rw [List.find?_eq_none]
  intro i hi
  have:=(List.mem_range'_1.1 hi).1
  unfold hitB
  rw [decide_eq_false (by omega)]
  simp
 rw [h2,Option.or_none]
 have : ∀ l : List Nat,(∀ i ∈ l,i < 2 ^ zq647 p) → l.find? (hitB p kp b) = l.find? ((fun a => !zq1688 kp b a) ∘ addrI p):=by
  intro l
  induction l with
  | nil => intro _;rfl
  | cons i r ih =>
   intro h
   rw [List.find?_cons,List.find?_cons,ih fun j hj => h j (by simp [hj])]
   have : hitB p kp b i = ((fun a => !zq1688 kp b a) ∘ addrI p) i:=by
    unfold hitB
    rw [decide_eq_true (h i (by simp))]
    rfl
   rw [this]
 exact this _ fun i hi => List.mem_range.1 hi
def goG (kp : List Ad) (l b : List Ls) (who : ByteArray) (u : Int) (a0 : Ad) : Option Ad → (((Unit) × (Unit) × (Bool × Unit) × Unit) × (List Ad × List Ls × List Ls × (Ad × Unit) × Unit)) ⊕ (((Unit) × Unit) × (List Ad × List Ls × (Ad × Unit) × Unit))
 | some a => Sum.inl (((),(),(true,()),()),(kp,l,insAt b ⟨a,who,u⟩,(a,()),()))
 | none => Sum.inr (((),()),(kp,l,(a0,()),()))
theorem zq678 {p : Pf} (hp : p.In) (cp : chkP p = 0) (hn : ((wid p.ad.v6 : Nat) : Int) - p.bits ≤ 4) {kp : List Ad} (hk : kp.length ≤ 1048576) (l : List Ls) {b : List Ls} (hb : lsIn b) (hc : ∀ y ∈ b,chkLs y = 0) (hs : ascL b = true) (hlen : b.length ≤ 20)
  (who : ByteArray) (now ttl : Int) (hu : i64ok (now + ttl) = true) (a0 : Ad) : ∀ (N n : Nat),16 - n < N → n ≤ 16 → p.ad.num + n < 2 ^ wid p.ad.v6 →
   loopN zq126 N (((who,()),(now,()),(ttl,()),(),(),(),(),(),((n : Int),()),()),(kp,l,(p.ad.v6,p.ad.hi,p.ad.lo,p.bits,()),(a0,()),b,([] : List Ls),(addrI p n,()),())) =
    some (goG kp l b who (now + ttl) a0 (((List.range' n (16 - n)).find? (hitB p kp b)).map (addrI p)))
 | 0,_,h,_,_ => by omega
 | N + 1,n,hN,h16,hv => by
  obtain ⟨n1,n2,n3,n4⟩:=zq1066 hp cp hn
  rw [zq1010]
  simp only [zq126]
  by_cases hlt : n < 16
  rotate_left
  ·have : n = 16:=by omega
   subst this
   rw [decide_eq_false (by omega),zq443]
   rfl
  rw [decide_eq_true (show (n : Int) < 16 by omega),zq445,zq992 (show b.length ≤ 1048576 by omega),zq415]
  simp only []
  have hin : (addrI p n).In:=zq1102 hv
  have hca : chkA (addrI p n) = 0:=zq1101 hv
  rw [zq138 (p:=p) hp cp hin hca,zq415,zq688 hp cp hn,br_ss,zq415]
  have hr : List.range' n (16 - n) = n :: List.range' (n + 1) (16 - (n + 1)):=by
   rw [show 16 - n = 16 - (n + 1) + 1 by omega,List.range'_succ]
  rw [hr,List.find?_cons]
  have hgo : ((zq183 (addrI p n)).bind fun y5 =>
    br (!y5.2.1)
     (some (Sum.inr ((((),()),(kp,l,(a0,()),())))))
     (req (i64ok ((n : Int) + 1)) <|
     loopN zq126 N (((who,()),(now,()),(ttl,()),(),(),(),(),(),((n : Int) + 1,()),()),(kp,l,(p.ad.v6,p.ad.hi,p.ad.lo,p.bits,()),(a0,()),b,([] : List Ls),(y5.1,()),())))) =
    some (goG kp l b who (now + ttl) a0 (((List.range' (n + 1) (16 - (n + 1))).find? (hitB p kp b)).map (addrI p))):=by
   have e : addrI p (n + 1) = ofNum p.ad.v6 (p.ad.num + n + 1):=by unfold addrI;rw [Nat.add_assoc]
   have hnx:=zq181 hv
   rw [← e,← addrI] at hnx
   rw [hnx,zq415]
   by_cases h1 : p.ad.num + n + 1 < 2 ^ wid p.ad.v6
   ·rw [if_pos h1]
    simp only [zc10,zq443]
    rw [show ((n : Int) + 1) = ((n + 1 : Nat) : Int) by omega,zq1398 (zq693 (by omega) (by omega))]
    exact zq678 hp cp hn hk l hb hc hs hlen who now ttl hu a0 N (n + 1) (by omega) (by omega) (by omega)
   ·rw [if_neg h1]
    have h2 : (List.range' (n + 1) (16 - (n + 1))).find? (hitB p kp b) = none:=by
     rw [List.find?_eq_none]
     intro i hi
     have:=(List.mem_range'_1.1 hi).1
     unfold hitB
     rw [decide_eq_false (by omega)]
     simp
    rw [h2]
    rfl
  have hhit : hitB p kp b n = (decide (n < 2 ^ zq647 p) && !(kp.any (fun x => decide (addrI p n = x)) || b.any (fun x => decide (x.ad = addrI p n)))):=rfl
  rw [hhit]
  cases decide (n < 2 ^ zq647 p)
  ·simp only [cond_false,zq443,zq415,Bool.false_and]
   exact hgo
  cases hba : b.any (fun x => decide (x.ad = addrI p n))
  rotate_left
  ·simp only [cond_true,zc10,zq443,zq415,Bool.or_true,Bool.and_false]
   exact hgo
  simp only [cond_true,zc19,zq445,zq247 hk,zq415,Bool.or_false,Bool.true_and]
  cases hka : kp.any (fun x => decide (addrI p n = x))
  rotate_left
  ·simp only [zc10,zq443]
   exact hgo
  simp only [zc19,zq445]
  rw [zq1398 hu]
  have hI : loopN zq123 FUEL (((),(),(),(),(),(false,()),(0,()),()),(kp,l,(a0,()),b,([] : List Ls),(addrI p n,()),((⟨addrI p n,who,now + ttl⟩ : Ls),()),())) =
    some (((),(),(),(),((insSt b ⟨addrI p n,who,now + ttl⟩ b.length).1,()),()),(kp,l,(a0,()),(insSt b ⟨addrI p n,who,now + ttl⟩ b.length).2,(addrI p n,()),((⟨addrI p n,who,now + ttl⟩ : Ls),()),())) :=
   zq741 (x:=⟨addrI p n,who,now + ttl⟩) hb hc hs hlen hin hca hba kp l a0
  rw [hI,zq415]
  simp only [Option.map_some,goG]
  rw [← zq737]
  have hl2 : (insSt b ⟨addrI p n,who,now + ttl⟩ b.length).2.length ≤ 21:=by
   have:=zq1235 (addrI p n) b
   unfold insSt
   split
   ·simp;omega
   ·simp;omega
  cases (insSt b ⟨addrI p n,who,now + ttl⟩ b.length).1
  ·simp only [zc19,zq445,cond_false]
   rw [zq1398 (zq1424 (zq993 _) (zq993 _) (by unfold lenL;simp only [zc21,zc32];omega))]
  ·simp only [zc10,zq443,cond_true]
theorem zq132 {p : Pf} (hp : p.In) {kp : List Ad} {l : List Ls} (h : lsIn l) {now ttl : Int} (hc : zq487 p kp = 0) (ha : allC l now = 0) (hu : i64ok (now + ttl) = true) (who : ByteArray) :
  zq134 p kp l who now ttl = some (rawOf p kp (live l now) who (now + ttl)):=by
 obtain ⟨a1,a2,a3,a4⟩:=zq369 ha
 obtain ⟨c1,c2,c3⟩:=zq489 hc
 have hll:=zq1005 l now
 unfold zq134
 rw [zq177 (by omega) now,zq415]
 have hbs:=zq1003 h a3 now
 have hbi:=zq1004 h now
 have hbc : ∀ y ∈ live l now,chkLs y = 0:=fun y hy => a2 y (List.mem_filter.1 hy).1
 generalize live l now = b at hll hbs hbi hbc ⊢
 obtain ⟨n1,n2,n3,n4⟩:=zq1066 hp c1 c2
 rw [zq232 (show b.length ≤ 9223372036854775807 by omega),zq415]
 unfold rawOf
 cases hfw : zq603 (whoP who) b with
 | some k =>
  have hk:=zq606 hfw
  obtain ⟨e,he⟩ : ∃ e,b[k]? = some e:=⟨_,zc0 hk⟩
  have r1 : zq697 (k : Int) (lenL b) = true:=zq699 (by omega) (by unfold lenL;omega)
  have r2 : zq697 (k : Int) (lenL (seti b (k : Int) (⟨e.ad,e.who,now + ttl⟩ : Ls))) = true:=zq699 (by omega) (by unfold lenL seti;simp only [zc42];omega)
  have hg : geti (seti b (k : Int) (⟨e.ad,e.who,now + ttl⟩ : Ls)) (k : Int) = some ⟨e.ad,e.who,now + ttl⟩:=by
   rw [zq658]
   simp [seti,hk]
  simp only [zq695,Option.isSome_some,zq445]
  simp only [idxI]
  rw [zq1398 hu]
  simp only [r1,zq1400,zq657 he,zq415,r2,hg]
  unfold zq755
  rw [he]
  simp [seti]
 | none =>
  simp only [zq695,Option.isSome_none,zq443]
  have hg:=zq678 hp c1 c2 (kp:=kp) (by omega) l hbi hbc hbs (by omega) who now ttl hu ⟨false,0,0⟩ FUEL 0 (by have : FUEL = 18446744073709551616:=rfl;omega) (by omega) (by have:=Nat.two_pow_pos (zq647 p);omega)
  have h0 : addrI p 0 = p.ad:=by
   unfold addrI
   rw [Nat.add_zero,zq1104 _ hp.1.wf]
  rw [h0,show ((0 : Nat) : Int) = 0 from rfl,show 16 - 0 = 16 from rfl,zq687 n2] at hg
  rw [hg,zq415]
  cases zq648 p kp b <;> rfl
end Go.Ma
namespace Go.Ma
open Go
def quadP : Pf:=⟨⟨false,0,8⟩,30⟩
theorem quad_eq : zq839 = some ((quadP,[⟨false,0,8⟩],()),()):=rfl
theorem zq1343 : quadP.In:=⟨⟨⟨by decide,by decide⟩,by decide,by decide⟩,by decide,by decide⟩
theorem zq762 : adIn [⟨false,0,8⟩]:=fun a ha => by
 simp only [zc37] at ha
 subst ha
 exact ⟨⟨by decide,by decide⟩,by decide,by decide⟩
def wx : ByteArray:=⟨#[120]⟩
def wy : ByteArray:=⟨#[121]⟩
def wz : ByteArray:=⟨#[122]⟩
theorem wx_in : strIn wx:=by unfold strIn maxLen;decide
theorem wy_in : strIn wy:=by unfold strIn maxLen;decide
theorem wz_in : strIn wz:=by unfold strIn maxLen;decide
theorem zq1008 {l : List Ls} {now : Int} {x : Ls} (h : x ∈ live l now) : x ∈ l ∧ now ≤ x.upto:=⟨(List.mem_filter.1 h).1,by have:=(List.mem_filter.1 h).2;simpa [liveP] using this⟩
def l1 : List Ls:=[⟨⟨false,0,9⟩,wx,15⟩]
def l2 : List Ls:=[⟨⟨false,0,9⟩,wx,15⟩,⟨⟨false,0,10⟩,wy,6⟩]
def l3 : List Ls:=[⟨⟨false,0,9⟩,wx,15⟩,⟨⟨false,0,10⟩,wz,8⟩]
theorem l1_in : lsIn l1:=fun x hx => by
 simp only [l1,zc37] at hx
 subst hx
 exact ⟨⟨⟨by decide,by decide⟩,by decide,by decide⟩,wx_in,by decide,by decide⟩
theorem l2_in : lsIn l2:=fun x hx => by
 simp only [l2,zc28,List.not_mem_nil,or_false] at hx
 rcases hx with rfl | rfl
 ·exact ⟨⟨⟨by decide,by decide⟩,by decide,by decide⟩,wx_in,by decide,by decide⟩
 ·exact ⟨⟨⟨by decide,by decide⟩,by decide,by decide⟩,wy_in,by decide,by decide⟩
theorem zq1024 : lsIn []:=fun x hx => by cases hx
theorem g1 : zq674 quadP [⟨false,0,8⟩] [] wx 5 10 = (l1,⟨false,0,9⟩,0,()):=by decide +kernel
theorem g2 : zq674 quadP [⟨false,0,8⟩] l1 wy 5 1 = (l2,⟨false,0,10⟩,0,()):=by decide +kernel
theorem g3 : zq674 quadP [⟨false,0,8⟩] l2 wz 7 1 = (l3,⟨false,0,10⟩,0,()):=by decide +kernel
theorem g4 : zq565 l2 7 = (l1,1,0,()):=by decide +kernel
theorem g5 : zq487 quadP [⟨false,0,8⟩] = 0:=by decide +kernel
theorem g6 : chkOf quadP [⟨false,0,8⟩] l2 5 = 0:=by decide +kernel
theorem zq867 : zq829 = some (true,()):=by
 unfold zq829
 have e1:=zq898 zq1343 zq762 zq1024 (who:=wx) wx_in 5 10
 have e2:=zq898 zq1343 zq762 l1_in (who:=wy) wy_in 5 1
 have e3:=zq898 zq1343 zq762 l2_in (who:=wz) wz_in 7 1
 rw [g1] at e1
 rw [g2] at e2
 rw [g3] at e3
 have e4:=zq892 l2_in 7
 rw [g4] at e4
 have e5:=zq936 zq1343 zq762
 rw [g5] at e5
 have e6:=zq886 zq1343 zq762 l2_in 5
 rw [g6] at e6
 unfold wx at e1
 unfold wy at e2
 unfold wz at e3
 simp only [quad_eq,zq415]
 rw [e1,zq415]
 simp only []
 rw [e2,zq415]
 simp only []
 rw [e3,zq415]
 simp only []
 rw [e4,zq415,e5,zq415]
 simp only []
 rw [e6,zq415]
 simp only [zq861,zq415,decide_true,zq445,zq588]
 rfl
theorem zq480 : ∀ {l : List Ls},(∀ x ∈ l,chkLs x = 0) → zq478 l = 0
 | [],_ => rfl
 | y :: r,h => by
  unfold zq478
  rw [if_neg (fun h' => h' (h y (by simp))),zq480 fun x hx => h x (by simp [hx])]
end Go.Ma
namespace Go.Ma
open Go
end Go.Ma
namespace Go.Ma
open Go
end Go.Ma
namespace Go.Ma
open Go
theorem zq1278 {p q : Pf} (hp : chkP p = 0) (hq : chkP q = 0) : zq1280 p q = some (ordP p q,()):=by
 have h1:=zq485 hp
 have h2:=zq485 hq
 have h3:=zq1735 p.ad.v6
 have h4:=zq1735 q.ad.v6
 unfold zq1280 ordP
 rw [zq347,zq415]
 by_cases h : ordA p.ad q.ad = 0
 ·rw [decide_eq_true (show (ordA p.ad q.ad,()).1 = 0 from h),zc10,zq443,if_neg (fun h' => h' h),zq1398 (zq693 (by omega) (by omega))]
 ·rw [decide_eq_false (show ¬ (ordA p.ad q.ad,()).1 = 0 from h),zc19,zq445,if_pos h]
def zq356 (p q : Pf) : Bool:=if p.ad ≠ q.ad then zq355 p.ad q.ad else decide (p.bits < q.bits)
theorem zq196 {p q : Pf} (hp : p.In) (hq : q.In) (cp : chkP p = 0) (cq : chkP q = 0) : zq198 p q = some (zq356 p q,()):=by
 unfold zq198 zq356
 rw [zq588]
 by_cases h : p.ad = q.ad
 ·rw [decide_eq_true h,zc10,zq443,if_neg (fun h' => h' h)]
 ·rw [decide_eq_false h,zc19,zq445,if_pos h,zq153 hp.1 hq.1 (zq484 cp) (zq484 cq),zq415]
theorem zq1180 {p q : Pf} (hp : p.In) (hq : q.In) : decide (ordP q p > 0) = zq356 p q:=by
 unfold ordP zq356
 have e : (p.ad = q.ad) ↔ (p.ad.v6 = q.ad.v6 ∧ p.ad.hi = q.ad.hi ∧ p.ad.lo = q.ad.lo):=by
  cases p.ad;cases q.ad
  simp only [Ad.mk.injEq]
 have hn : p.ad.v6 = q.ad.v6 → (p.ad.num < q.ad.num ↔ (p.ad.hi < q.ad.hi ∨ (p.ad.hi = q.ad.hi ∧ p.ad.lo < q.ad.lo))):=by
  intro _
  obtain ⟨⟨a1,a2⟩,a3,a4⟩:=hp.1
  obtain ⟨⟨b1,b2⟩,b3,b4⟩:=hq.1
  unfold Ad.num
  omega
 unfold ordA ordI zq355
 by_cases hv : p.ad.v6 = q.ad.v6
 ·have hv' : q.ad.v6 = p.ad.v6:=hv.symm
  rw [Bool.eq_iff_iff,decide_eq_true_iff]
  simp only [hv,ne_eq,not_true,false_and,if_false]
  have hn:=hn hv
  by_cases h1 : p.ad.hi = q.ad.hi
  ·by_cases h2 : p.ad.lo = q.ad.lo
   ·have:=e.2 ⟨hv,h1,h2⟩
    simp [this]
    try omega
   ·have hne : ¬ p.ad = q.ad:=fun h => h2 (e.1 h).2.2
    simp only [h1,not_true,if_false,hne,not_false_eq_true,if_true,decide_eq_true_iff,hn]
    by_cases h3 : q.ad.lo < p.ad.lo
    ·simp [h3];try omega
    ·have h4 : q.ad.lo > p.ad.lo:=by omega
     simp [h3,h4]
  ·have hne : ¬ p.ad = q.ad:=fun h => h1 (e.1 h).2.1
   have h1' : ¬ q.ad.hi = p.ad.hi:=fun h => h1 h.symm
   simp only [h1',not_false_eq_true,if_true,hne,decide_eq_true_iff,hn]
   by_cases h3 : q.ad.hi < p.ad.hi
   ·simp [h3];try omega
   ·have h4 : q.ad.hi > p.ad.hi:=by omega
    simp [h3,h4]
 ·have hne : ¬ p.ad = q.ad:=fun h => hv (e.1 h).1
  have hv' : ¬ q.ad.v6 = p.ad.v6:=fun h => hv h.symm
  simp only [hne,hv,hv',ne_eq,not_false_eq_true,true_and,if_true]
  cases hp6 : p.ad.v6 <;> cases hq6 : q.ad.v6
  ·rw [hp6,hq6] at hv;exact absurd rfl hv
  ·simp
  ·simp
  ·rw [hp6,hq6] at hv;exact absurd rfl hv
theorem zq1284 {p q : Pf} (cp : chkP p = 0) (hq : q.In) : zq1286 p q = some (over p q,()):=by
 obtain ⟨h1,h2⟩:=zq485 cp
 unfold zq1286 over
 rw [zq1260 h1 h2 hq.1,zq415,br_sb,zq415]
 cases decide (p.bits ≤ q.bits) <;> rfl
theorem zq144 {p q : Pf} (hp : p.In) (cp : chkP p = 0) (hq : q.In) (cq : chkA q.ad = 0) : zq146 p q = some (over p q,()):=by
 unfold zq146 over
 rw [zq138 hp cp hq.1 cq,zq415,br_sb,zq415]
 cases decide (p.bits ≤ q.bits) <;> rfl
end Go.Ma
namespace Go.Ma
open Go
end Go.Ma
namespace Go.Ma
open Go
end Go.Ma
namespace Go.Ma
open Go
end Go.Ma
namespace Go.Ma
open Go
end Go.Ma
namespace Go.Ma
open Go
theorem zq689 {p : Pf} {a : Ad} : holds p a = true ↔ p.ad.v6 = a.v6 ∧ cutA a p.bits = p.ad:=by simp [holds]
theorem zq1189 {p q : Pf} : over p q = true ↔ p.bits ≤ q.bits ∧ holds p q.ad = true:=by simp [over]
theorem zq690 {p : Pf} (cp : chkP p = 0) : holds p p.ad = true:=by
 rw [zq689]
 exact ⟨rfl,zq486 cp⟩
end Go.Ma
namespace Go.Ma
open Go
def free (p : Pf) : Nat:=wid p.ad.v6 - p.bits.toNat
theorem zq650 {p : Pf} (hp : p.In) (cp : chkP p = 0) : free p ≤ wid p.ad.v6 ∧ p.ad.num % 2 ^ free p = 0 ∧ p.ad.num + 2 ^ free p ≤ 2 ^ wid p.ad.v6:=by
 have h3 : p.ad.num % 2 ^ free p = 0:=(zq517 _ _).1 ((zq514 hp.1.wf p.bits).1 (zq486 cp))
 have h4:=zq1421 p.ad ⟨hp.1.wf,zq484 cp⟩
 have hk : free p ≤ wid p.ad.v6:=by unfold free;omega
 refine ⟨hk,h3,?_⟩
 have h5 : 2 ^ wid p.ad.v6 = 2 ^ free p * 2 ^ (wid p.ad.v6 - free p):=by rw [← Nat.pow_add];congr 1;omega
 obtain ⟨m,hm⟩:=Nat.dvd_of_mod_eq_zero h3
 rw [hm,h5] at h4 ⊢
 have:=Nat.lt_of_mul_lt_mul_left h4
 calc 2 ^ free p * m + 2 ^ free p = 2 ^ free p * (m + 1):=by rw [Nat.mul_add,Nat.mul_one]
  _ ≤ _:=Nat.mul_le_mul_left _ this
theorem zq691 {p : Pf} {a : Ad} (hp : p.In) (cp : chkP p = 0) (ha : a.In) : holds p a = true ↔ p.ad.v6 = a.v6 ∧ p.ad.num ≤ a.num ∧ a.num < p.ad.num + 2 ^ free p:=by
 obtain ⟨f1,f2,f3⟩:=zq650 hp cp
 have hpp:=Nat.two_pow_pos (free p)
 rw [zq689]
 constructor
 ·rintro ⟨h1,h2⟩
  have h3 : p.ad.num = cutN a.num (free p):=by
   have h4 : (cutA a p.bits).num = cutN a.num (wid a.v6 - p.bits.toNat):=by unfold cutA;rw [zq1094]
   rw [h2] at h4
   rw [h4]
   unfold free
   rw [h1]
  unfold cutN at h3
  have:=Nat.div_add_mod a.num (2 ^ free p)
  have h5:=Nat.mod_lt a.num hpp
  rw [Nat.mul_comm] at this
  refine ⟨h1,by omega,by omega⟩
 ·rintro ⟨h1,h2,h3⟩
  refine ⟨h1,?_⟩
  obtain ⟨m,hm⟩:=Nat.dvd_of_mod_eq_zero f2
  have h4 : a.num / 2 ^ free p = m:=by
   apply Nat.div_eq_of_lt_le
   ·rw [Nat.mul_comm];omega
   ·rw [Nat.add_mul,Nat.one_mul,Nat.mul_comm];omega
  unfold cutA cutN
  rw [show wid a.v6 - p.bits.toNat = free p by unfold free;rw [h1],h4,← h1,Nat.mul_comm,← hm,zq1104 p.ad hp.1.wf]
theorem zq1191 {p : Pf} (cp : chkP p = 0) : over p p = true:=zq1189.2 ⟨Int.le_refl _,zq690 cp⟩
theorem zq394 {p q : Pf} (hp : p.In) (hq : q.In) (cp : chkP p = 0) (cq : chkP q = 0) (hv : p.ad.v6 = q.ad.v6) (h1 : q.ad.num ≤ p.ad.num + (2 ^ free p - 1)) (h2 : p.ad.num ≤ q.ad.num + (2 ^ free q - 1)) (hb : p.bits ≤ q.bits) : over p q = true:=by
 rw [zq1189]
 refine ⟨hb,(zq691 hp cp hq.1).2 ⟨hv,?_,by have:=Nat.two_pow_pos (free p);omega⟩⟩
 obtain ⟨_,f2,_⟩:=zq650 hp cp
 obtain ⟨_,g2,_⟩:=zq650 hq cq
 have hle : free q ≤ free p:=by unfold free;rw [hv];omega
 have e : 2 ^ free p = 2 ^ free q * 2 ^ (free p - free q):=by rw [← Nat.pow_add];congr 1;omega
 obtain ⟨m,hm⟩:=Nat.dvd_of_mod_eq_zero f2
 obtain ⟨k,hk⟩:=Nat.dvd_of_mod_eq_zero g2
 have hpos:=Nat.two_pow_pos (free q)
 have hm' : p.ad.num = 2 ^ free q * (2 ^ (free p - free q) * m):=by rw [hm,e,Nat.mul_assoc]
 rw [hm',hk] at h2 ⊢
 apply Nat.mul_le_mul_left
 apply Nat.le_of_lt_succ
 apply Nat.lt_of_mul_lt_mul_left (a:=2 ^ free q)
 rw [Nat.mul_succ]
 omega
end Go.Ma
namespace Go.Ma
open Go
theorem zq1100 (p : Pf) : ∀ (m bf : List Ls),ofF p bf m = 0 ↔ (∀ x ∈ m,holds p x.ad = true) ∧ (∀ y ∈ bf,∀ x ∈ m,y.who ≠ x.who) ∧ m.Pairwise fun x y => x.who ≠ y.who
 | [],bf => by simp [ofF]
 | x :: r,bf => by
  unfold ofF
  by_cases h1 : holds p x.ad = true
  ·rw [if_neg (by simp [h1])]
   by_cases h2 : bf.any (whoP x.who) = true
   ·rw [if_pos h2]
    constructor
    ·intro h;exact absurd h (by decide)
    ·rintro ⟨_,h3,_⟩
     obtain ⟨y,hy,hq⟩:=List.any_eq_true.1 h2
     exact absurd (by simpa [whoP] using hq) (h3 y hy x (by simp))
   ·rw [if_neg h2,zq1100 p r (bf ++ [x])]
    have h2' : ∀ y ∈ bf,y.who ≠ x.who:=fun y hy he => h2 (List.any_eq_true.2 ⟨y,hy,by simp [whoP,he]⟩)
    constructor
    ·rintro ⟨a1,a2,a3⟩
     refine ⟨fun z hz => ?_,fun y hy z hz => ?_,zc44.2 ⟨fun z hz => a2 x (by simp) z hz,a3⟩⟩
     ·rcases zc28.1 hz with rfl | hz
      ·exact h1
      ·exact a1 z hz
     ·rcases zc28.1 hz with rfl | hz
      ·exact h2' y hy
      ·exact a2 y (by simp [hy]) z hz
    ·rintro ⟨a1,a2,a3⟩
     obtain ⟨b1,b2⟩:=zc44.1 a3
     refine ⟨fun z hz => a1 z (by simp [hz]),fun y hy z hz => ?_,b2⟩
     rcases zc36.1 hy with hy | hy
     ·exact a2 y hy z (by simp [hz])
     ·have : y = x:=by simpa using hy
      subst this
      exact b1 z hz
  ·rw [if_pos (by simpa using h1)]
   constructor
   ·intro h;exact absurd h (by decide)
   ·rintro ⟨a1,_⟩;exact absurd (a1 x (by simp)) h1
structure Good (p : Pf) (m : List Ls) : Prop where
 ins : lsIn m
 chk : ∀ x ∈ m,chkLs x = 0
 held : ∀ x ∈ m,holds p x.ad = true
 asc : m.Pairwise fun x y => rank x.ad < rank y.ad
 whos : m.Pairwise fun x y => x.who ≠ y.who
theorem zq673 {p : Pf} {kp : List Ad} {l : List Ls} {now : Int} (h : lsIn l) (hc : chkOf p kp l now = 0) : Good p l:=by
 obtain ⟨c1,c2,c3⟩:=zq483 hc
 obtain ⟨a1,a2,a3,a4⟩:=zq369 c2
 obtain ⟨o1,_,o3⟩:=(zq1100 p l []).1 c3
 exact ⟨h,a2,o1,(zq406 h).1 a3,o3⟩
theorem Good.live {p : Pf} {l : List Ls} (g : Good p l) (now : Int) : Good p (live l now) :=
 ⟨fun x hx => g.ins x (zq1008 hx).1,fun x hx => g.chk x (zq1008 hx).1,fun x hx => g.held x (zq1008 hx).1,g.asc.filter _,g.whos.filter _⟩
theorem zq404 {lo : Nat} : ∀ {l : List Nat} {hi : Nat},l.Pairwise (· < ·) → (∀ x ∈ l,lo ≤ x ∧ x < hi) → l.length ≤ hi - lo
 | [],_,_,_ => Nat.zero_le _
 | x :: r,hi,h,hb => by
  obtain ⟨h1,h2⟩:=zc44.1 h
  have hx:=hb x (by simp)
  have:=zq404 (lo:=x + 1) (l:=r) (hi:=hi) h2 fun y hy => ⟨h1 y hy,(hb y (by simp [hy])).2⟩
  simp only [zc21]
  omega
theorem Good.len {p : Pf} {l : List Ls} (g : Good p l) (hp : p.In) (cp : chkP p = 0) (hn : ((wid p.ad.v6 : Nat) : Int) - p.bits ≤ 4) : l.length ≤ 16:=by
 obtain ⟨n1,n2,n3,n4⟩:=zq1066 hp cp hn
 have h:=zq404 (lo:=rank p.ad) (l:=l.map fun x => rank x.ad) (hi:=rank p.ad + 16) (by rw [List.pairwise_map];exact g.asc) fun y hy => by
  obtain ⟨x,hx,rfl⟩:=List.mem_map.1 hy
  obtain ⟨s1,s2,s3⟩:=(zq691 hp cp (g.ins x hx).1).1 (g.held x hx)
  have e : free p = zq647 p:=rfl
  rw [e] at s3
  unfold rank
  rw [s1]
  omega
 rw [List.length_map] at h
 omega
theorem Good.ok {p : Pf} {l : List Ls} (g : Good p l) {kp : List Ad} (hp : p.In) (hc : zq487 p kp = 0) {now : Int} (ht : betw now 0 9999 = true) : chkOf p kp l now = 0:=by
 obtain ⟨cp,hn,_⟩:=zq489 hc
 have hlen:=g.len hp cp hn
 have ha : allC l now = 0:=by
  unfold allC
  rw [if_neg (by omega),zq480 g.chk,if_neg (fun h => h rfl),(zq406 g.ins).2 g.asc,if_neg (by simp),ht,if_neg (by simp)]
 unfold chkOf
 rw [hc,if_neg (fun h => h rfl),ha,if_neg (fun h => h rfl)]
 exact (zq1100 p l []).2 ⟨g.held,fun y hy => absurd hy (by simp),g.whos⟩
theorem zq1050 {b : List Ls} {k : Nat} {v x : Ls} (h : x ∈ b.set k v) : x ∈ b ∨ x = v:=(List.mem_or_eq_of_mem_set h)
theorem zq1035 {α : Type} (f : Ls → α) {b : List Ls} {k : Nat} {e v : Ls} (he : b[k]? = some e) (h : f v = f e) : (b.set k v).map f = b.map f:=by
 rw [List.map_set,h]
 have hk:=(zc1.1 he).1
 have : f e = (b.map f)[k]'(by simpa using hk):=by
  rw [List.getElem_map,(zc1.1 he).2]
 rw [this,List.set_getElem_self]
theorem zq482 {a : Ad} {who : ByteArray} {u : Int} (ca : chkA a = 0) (hw : whoOk who = true) (hu : betw u 0 10499 = true) : chkLs ⟨a,who,u⟩ = 0:=by
 unfold chkLs
 simp only [ca,hw,hu]
 simp
theorem Good.set {p : Pf} {b : List Ls} (g : Good p b) {k : Nat} {e : Ls} (he : b[k]? = some e) {u : Int} (hu : betw u 0 10499 = true) : Good p (b.set k ⟨e.ad,e.who,u⟩):=by
 have hm:=zc5 he
 obtain ⟨u1,u2⟩:=zq413.1 hu
 obtain ⟨e1,e2,e3⟩:=zq481 (g.chk e hm)
 obtain ⟨i1,i2,i3⟩:=g.ins e hm
 refine ⟨fun x hx => ?_,fun x hx => ?_,fun x hx => ?_,?_,?_⟩
 ·rcases zq1050 hx with hx | rfl
  ·exact g.ins x hx
  ·exact ⟨i1,i2,⟨by show (-9223372036854775808 : Int) ≤ u;omega,by show u < 9223372036854775808;omega⟩⟩
 ·rcases zq1050 hx with hx | rfl
  ·exact g.chk x hx
  ·exact zq482 e1 e2 hu
 ·rcases zq1050 hx with hx | rfl
  ·exact g.held x hx
  ·exact g.held e hm
 ·have:=g.asc
  rw [← List.pairwise_map (f:=fun x : Ls => rank x.ad) (R:=(· < ·))] at this ⊢
  rwa [zq1035 (fun x : Ls => rank x.ad) (v:=⟨e.ad,e.who,u⟩) he rfl]
 ·have:=g.whos
  rw [← List.pairwise_map (f:=fun x : Ls => x.who) (R:=(· ≠ ·))] at this ⊢
  rwa [zq1035 (fun x : Ls => x.who) (v:=⟨e.ad,e.who,u⟩) he rfl]
theorem zq1047 {b : List Ls} {x y : Ls} : y ∈ insAt b x ↔ y ∈ b ∨ y = x:=by
 unfold insAt
 have h:=List.take_append_drop (posF x.ad b) b
 rw [zc36,zc28]
 constructor
 ·rintro (h1 | rfl | h1)
  ·exact .inl (List.mem_of_mem_take h1)
  ·exact .inr rfl
  ·exact .inl (List.mem_of_mem_drop h1)
 ·rintro (h1 | rfl)
  ·rw [← h] at h1
   rcases zc36.1 h1 with h2 | h2
   ·exact .inl h2
   ·exact .inr (.inr h2)
  ·exact .inr (.inl rfl)
theorem Good.put {p : Pf} {b : List Ls} (g : Good p b) {a : Ad} (ha : a.In) (ca : chkA a = 0) (hh : holds p a = true) (hfree : ∀ x ∈ b,x.ad ≠ a) {who : ByteArray} (hs : strIn who) (hw : whoOk who = true) (hno : ∀ x ∈ b,x.who ≠ who) {u : Int} (hu : betw u 0 10499 = true) :
  Good p (insAt b ⟨a,who,u⟩):=by
 obtain ⟨u1,u2⟩:=zq413.1 hu
 have hsplit:=List.take_append_drop (posF a b) b
 have hasc:=g.asc
 have hwhos:=g.whos
 rw [← hsplit,List.pairwise_append] at hasc hwhos
 have hpos:=fun (h : Nat) (x : Ls) (hx : b[h]? = some x) => zq1238 ha g.ins ((zq406 g.ins).2 g.asc) hx
 have hlo : ∀ y ∈ b.take (posF a b),rank y.ad < rank a:=fun y hy => by
  obtain ⟨i,hi⟩:=List.getElem?_of_mem hy
  have hi2 : i < posF a b:=by
   have:=(zc1.1 hi).1
   simp at this
   omega
  rw [List.getElem?_take_of_lt hi2] at hi
  exact (zq1181 (g.ins y (zc5 hi)).1 ha).1.1 ((hpos i y hi).2 hi2)
 have hhi : ∀ y ∈ b.drop (posF a b),rank a < rank y.ad:=fun y hy => by
  obtain ⟨i,hi⟩:=List.getElem?_of_mem hy
  rw [zc38] at hi
  have hm:=zc5 hi
  have h1 : ¬ rank y.ad < rank a:=fun h => by
   have:=(hpos _ y hi).1 ((zq1181 (g.ins y hm).1 ha).1.2 h)
   omega
  have h2 : rank y.ad ≠ rank a:=fun h => hfree y hm (zq1347 (g.ins y hm).1 ha h)
  omega
 refine ⟨fun x hx => ?_,fun x hx => ?_,fun x hx => ?_,?_,?_⟩
 ·rcases zq1047.1 hx with hx | rfl
  ·exact g.ins x hx
  ·exact ⟨ha,hs,⟨by show (-9223372036854775808 : Int) ≤ u;omega,by show u < 9223372036854775808;omega⟩⟩
 ·rcases zq1047.1 hx with hx | rfl
  ·exact g.chk x hx
  ·exact zq482 ca hw hu
 ·rcases zq1047.1 hx with hx | rfl
  ·exact g.held x hx
  ·exact hh
 ·unfold insAt
  rw [List.pairwise_append,zc44]
  refine ⟨hasc.1,⟨hhi,hasc.2.1⟩,fun y hy z hz => ?_⟩
  rcases zc28.1 hz with rfl | hz
  ·exact hlo y hy
  ·exact hasc.2.2 y hy z hz
 ·unfold insAt
  rw [List.pairwise_append,zc44]
  refine ⟨hwhos.1,⟨fun z hz he => hno z (List.mem_of_mem_drop hz) he.symm,hwhos.2.1⟩,fun y hy z hz => ?_⟩
  rcases zc28.1 hz with rfl | hz
  ·exact hno y (List.mem_of_mem_take hy)
  ·exact hwhos.2.2 y hy z hz
theorem zq1734 {m : List Ls} (h : m.Pairwise fun x y => x.who ≠ y.who) {x : Ls} (hx : x ∈ m) : ∃ k,zq603 (whoP x.who) m = some k ∧ m[k]? = some x:=by
 cases hf : zq603 (whoP x.who) m with
 | none =>
  have:=zq607 hf x hx
  simp [whoP] at this
 | some k =>
  obtain ⟨y,hy,hq,_⟩:=zq608 hf
  refine ⟨k,rfl,?_⟩
  have hyx : y.who = x.who:=by simpa [whoP] using hq
  obtain ⟨i,hi⟩:=List.getElem?_of_mem hx
  obtain ⟨k1,k2⟩:=zc1.1 hy
  obtain ⟨i1,i2⟩:=zc1.1 hi
  have hp:=List.pairwise_iff_getElem.1 h
  rcases Nat.lt_trichotomy k i with h1 | h1 | h1
  ·exact absurd (by rw [k2,i2];exact hyx) (hp k i k1 i1 h1)
  ·subst h1;exact hi
  ·exact absurd (by rw [k2,i2];exact hyx.symm) (hp i k i1 k1 h1)
structure Given (p : Pf) (kp : List Ad) (l : List Ls) (who : ByteArray) (now u : Int) (m : List Ls) (a : Ad) : Prop where
 good : Good p m
 alive : ∀ x ∈ m,now ≤ x.upto
 mine : (⟨a,who,u⟩ : Ls) ∈ m
 others : ∀ x ∈ l,now ≤ x.upto → x.who ≠ who → x ∈ m
 fresh : (∀ x ∈ l,now ≤ x.upto → x.who ≠ who) → ∀ x ∈ kp,x ≠ a
theorem zq662 {p : Pf} (hp : p.In) {kp : List Ad} {l : List Ls} (hl : lsIn l) {who : ByteArray} (hw : strIn who) {now ttl : Int} {m : List Ls} {a : Ad} (h : zq674 p kp l who now ttl = (m,a,0,())) :
  chkOf p kp l now = 0 ∧ whoOk who = true ∧ Given p kp l who now (now + ttl) m a:=by
 unfold zq674 at h
 split at h
 ·rename_i hc
  exact absurd (congrArg (fun y => y.2.2.1) h) hc
 rename_i hc
 have hc : chkOf p kp l now = 0:=zc48.1 hc
 split at h
 ·exact absurd (show (1 : Int) = 0 from congrArg (fun y => y.2.2.1) h) (by decide)
 rename_i hwo
 have hwo : whoOk who = true:=by simpa using hwo
 split at h
 ·exact absurd (show (3 : Int) = 0 from congrArg (fun y => y.2.2.1) h) (by decide)
 rename_i ht
 have ht : betw ttl 1 500 = true:=by simpa using ht
 split at h
 ·exact absurd (show (8 : Int) = 0 from congrArg (fun y => y.2.2.1) h) (by decide)
 rename_i hr
 obtain ⟨c1,c2,c3⟩:=zq483 hc
 obtain ⟨cp,hn,_⟩:=zq489 c1
 obtain ⟨t1,t2⟩:=zq413.1 ht
 obtain ⟨v1,v2⟩:=zq413.1 (zq369 c2).2.2.2
 have hu : betw (now + ttl) 0 10499 = true:=zq413.2 ⟨by omega,by omega⟩
 have g:=(zq673 hl hc).live now
 have hlm : ∀ x ∈ l,now ≤ x.upto → x ∈ live l now:=fun x hx h => List.mem_filter.2 ⟨hx,by simp [liveP,h]⟩
 have hm : (rawOf p kp (live l now) who (now + ttl)).1 = m:=congrArg (fun y => y.1) h
 have ha : (rawOf p kp (live l now) who (now + ttl)).2.1 = a:=congrArg (fun y => y.2.1) h
 clear h
 refine ⟨hc,hwo,?_⟩
 unfold rawOf at hm ha hr
 cases hf : zq603 (whoP who) (live l now) with
 | some k =>
  rw [hf] at hm ha hr
  obtain ⟨e,he,hq,_⟩:=zq608 hf
  have hew : e.who = who:=by simpa [whoP] using hq
  simp only [zq755,he] at hm ha
  subst hm ha
  have hk:=(zc1.1 he).1
  refine ⟨g.set he hu,fun x hx => ?_,?_,fun x hx hx2 hx3 => ?_,fun hno => ?_⟩
  ·rcases zq1050 hx with hx | rfl
   ·exact (zq1008 hx).2
   ·show now ≤ now + ttl
    omega
  ·rw [← hew]
   exact zc5 (zc23 (by exact hk))
  ·obtain ⟨i,hi⟩:=List.getElem?_of_mem (hlm x hx hx2)
   have hik : k ≠ i:=fun h => by
    subst h
    rw [he] at hi
    injection hi with hi
    exact hx3 (by rw [← hi,hew])
   exact zc5 ((zc15 hik).trans hi)
  ·have hm:=zq1008 (zc5 he)
   exact absurd hew (hno e hm.1 hm.2)
 | none =>
  rw [hf] at hm ha hr
  cases hfr : zq648 p kp (live l now) with
  | none =>
   rw [hfr] at hr
   exact absurd rfl hr
  | some b =>
   rw [hfr] at hm ha
   simp only [zq1305] at hm ha
   subst hm ha
   obtain ⟨⟨i,hi,hbi⟩,htk⟩:=zq649 hfr
   obtain ⟨n1,n2,n3,n4⟩:=zq1066 hp cp hn
   obtain ⟨b1,b2⟩:=zq326 n4 hi
   unfold zq1688 at htk
   simp only [Bool.or_eq_false_iff,List.any_eq_false,decide_eq_true_eq] at htk
   have hno : ∀ x ∈ live l now,x.who ≠ who:=fun x hx he => by
    have:=zq607 hf x hx
    simp [whoP,he] at this
   refine ⟨g.put (by rw [hbi];exact b1) (by rw [hbi];exact b2) (by rw [hbi,zq688 hp cp hn];exact decide_eq_true hi) htk.2 hw hwo hno hu,fun x hx => ?_,zq1047.2 (.inr rfl),fun x hx hx2 hx3 => zq1047.2 (.inl (hlm x hx hx2)),fun _ x hx he => htk.1 x hx he.symm⟩
   rcases zq1047.1 hx with hx | rfl
   ·exact (zq1008 hx).2
   ·show now ≤ now + ttl
    omega
end Go.Ma
namespace Go.Ma
open Go
theorem zq1660 (x a b : Int) : zq1662 x a b = some (betw x a b,()):=by
 unfold zq1662
 rw [br_ss,zq415,zq412]
def zq597 (o : Oq) : Bool :=
 bif (bif (bif (bif (bif !decide (o.kind = 1) then !(eqPf o.pf ⟨⟨false,0,0⟩,0⟩) else false) then true else (bif !decide (o.kind = 2) then !(eqAd o.ad ⟨false,0,0⟩) else false))
  then true else (bif !decide (o.kind = 3) then (bif !decide (o.kind = 4) then zq1672 .neq o.who ByteArray.empty else false) else false))
  then true else (bif !decide (o.kind = 3) then !decide (o.of_ = 0) else false))
  then true else (bif !decide (o.kind = 3) then (bif !decide (o.kind = 5) then !decide (o.n = 0) else false) else false)
def formO (o : Oq) : Int :=
 if betw o.kind 1 5 = false then 7 else if zq597 o = true then 1
 else if o.kind = 1 then (if chkP o.pf ≠ 0 then chkP o.pf else if ((wid o.pf.ad.v6 : Nat) : Int) - o.pf.bits ≤ 4 then 0 else 2)
 else if o.kind = 2 then chkA o.ad
 else if o.kind < 5 ∧ whoOk o.who = false then 1
 else if o.kind = 3 ∧ (betw o.of_ 0 2 = false ∨ betw o.n 1 500 = false) then 3
 else if o.kind = 5 ∧ betw o.n 0 9999 = false then 3 else 0
theorem zq1636 (o : Oq) : zq1638 o = some (zq597 o,()):=by
 unfold zq1638
 simp only [br_ss,zq415]
 rfl
theorem zq1575 {o : Oq} (h : o.In) : zq1577 o = some (formO o,()):=by
 obtain ⟨_,hp,ha,hw,_,_⟩:=h
 unfold zq1577 formO
 rw [zq1660,zq415]
 cases hk : betw o.kind 1 5
 ·rfl
 obtain ⟨hk1,hk2⟩:=zq413.1 hk
 simp only [zc10,zq443,Bool.true_eq_false,if_false]
 rw [zq1636,zq415]
 cases zq597 o
 rotate_left
 ·rfl
 simp only [zq443,zc16,if_false]
 by_cases k1 : o.kind = 1
 ·rw [decide_eq_true k1,zq445,if_pos k1,zq1248 hp,zq415]
  by_cases hc : chkP o.pf = 0
  ·simp only [hc,decide_true,zc10,zq443,ne_eq,not_true,if_false]
   rw [zq927 hc,zq415]
   by_cases hn : ((wid o.pf.ad.v6 : Nat) : Int) - o.pf.bits ≤ 4 <;> simp [hn,zq445,zq443]
  ·simp [hc,zq445]
 rw [decide_eq_false k1,zq443,if_neg k1]
 by_cases k2 : o.kind = 2
 ·rw [decide_eq_true k2,zq445,if_pos k2,zq336,zq415]
 rw [decide_eq_false k2,zq443,if_neg k2]
 have who : ∀ (X : Bool → Option (Int × Unit)),((zq979 o.who).bind fun y => X y.1) = X (whoOk o.who):=fun X => by rw [zq977 hw,zq415]
 by_cases k3 : o.kind = 3
 ·simp only [k3,decide_true,zq445,zq977 hw,zq415,zq1660,br_ss]
  cases whoOk o.who <;> cases betw o.of_ 0 2 <;> cases betw o.n 1 500 <;> simp [zq445,zq443]
 ·simp only [k3,decide_false,zq443]
  by_cases k4 : o.kind = 4
  ·simp only [k4,zq977 hw,zq415,zq1660,br_ss]
   cases whoOk o.who <;> simp [zq445,zq443]
  ·have k5 : o.kind = 5:=by omega
   simp only [k5,zq1660,zq415]
   cases betw o.n 0 9999 <;> simp [zq445,zq443]
end Go.Ma
namespace Go.Ma
open Go
end Go.Ma
namespace Go.Ma
open Go
theorem zq51 {o : Oq} (h : o.In) : zq53 o = some (formO o,()):=by
 obtain ⟨_,hp,ha,hw,_,_⟩:=h
 unfold zq53 formO
 rw [zq238,zq415]
 cases hk : betw o.kind 1 5
 ·rfl
 obtain ⟨hk1,hk2⟩:=zq413.1 hk
 simp only [zc10,zq443,Bool.true_eq_false,if_false,br_sb,zq415]
 have e : ∀ a b : Option (Int × Unit),br (bif (bif (bif (bif (bif !decide (o.kind = 1) then !(eqPf o.pf ⟨⟨false,0,0⟩,0⟩) else false) then true else (bif !decide (o.kind = 2) then !(eqAd o.ad ⟨false,0,0⟩) else false))
  then true else (bif !decide (o.kind = 3) then (bif !decide (o.kind = 4) then zq1672 .neq o.who ByteArray.empty else false) else false))
  then true else (bif !decide (o.kind = 3) then !decide (o.of_ = 0) else false))
  then true else (bif !decide (o.kind = 3) then (bif !decide (o.kind = 5) then !decide (o.n = 0) else false) else false)) a b = br (zq597 o) a b:=fun _ _ => rfl
 rw [e]
 cases zq597 o
 rotate_left
 ·rfl
 simp only [zq443,zc16,if_false]
 by_cases k1 : o.kind = 1
 ·rw [decide_eq_true k1,zq445,if_pos k1,zq69 hp,zq415]
  by_cases hc : chkP o.pf = 0
  ·simp only [hc,decide_true,zq445,ne_eq,not_true,if_false,zq159 hc,zq415]
   by_cases hn : ((wid o.pf.ad.v6 : Nat) : Int) - o.pf.bits ≤ 4 <;> simp [hn,zq445,zq443]
  ·simp only [hc,decide_false,zq443,zq415,ne_eq,not_false_eq_true,if_true]
 rw [decide_eq_false k1,zq443,if_neg k1]
 by_cases k2 : o.kind = 2
 ·rw [decide_eq_true k2,zq445,if_pos k2,zq33 ha,zq415]
 rw [decide_eq_false k2,zq443,if_neg k2]
 by_cases k3 : o.kind = 3
 ·simp only [k3,decide_true,zq445,zq168 hw,zq415,zq238,br_sb,show decide ((3 : Int) < 5) = true from rfl,show decide ((3 : Int) = 5) = false from rfl,zq443]
  cases whoOk o.who <;> cases betw o.of_ 0 2 <;> cases betw o.n 1 500 <;> simp [zq445,zq443]
 ·by_cases k4 : o.kind = 4
  ·simp only [k4,zq168 hw,zq415,show decide ((4 : Int) < 5) = true from rfl,show decide ((4 : Int) = 5) = false from rfl,show decide ((4 : Int) = 3) = false from rfl,zq443,zq445]
   cases whoOk o.who <;> simp [zq445,zq443]
  ·have k5 : o.kind = 5:=by omega
   simp only [k5,zq238,zq415,show decide ((5 : Int) < 5) = false from rfl,show decide ((5 : Int) = 5) = true from rfl,show decide ((5 : Int) = 3) = false from rfl,zq443,zq445]
   cases betw o.n 0 9999 <;> simp [zq445,zq443]
end Go.Ma
namespace Go.Ma
open Go
section
variable {α A R : Type}
theorem zq696 {step : (A → Option R) → A → Option R} (b : List α) (q : α → Bool) (mk : Nat → A) (out : Option Nat → R) (hlen : b.length < 9223372036854775808)
  (h : ∀ (rec : A → Option R) (i : Nat) (x : α),b[i]? = some x → i < b.length → step rec (mk i) = if q x then some (out (some i)) else rec (mk (i + 1)))
  (hend : ∀ rec : A → Option R,step rec (mk b.length) = some (out none)) : loopN step FUEL (mk 0) = some (out (zq603 q b)):=by
 have:=zq1015 (step:=step) mk b.length (fun i => some (out ((zq603 q (b.drop i)).map (· + i)))) (fun rec i hi hr => ?_) (fun rec => ?_) FUEL 0 (Nat.zero_le _) (zq651 (by omega))
 ·rw [List.drop_zero,show (fun x => x + 0) = (id : Nat → Nat) from rfl,Option.map_id] at this
  exact this
 ·obtain ⟨e,he⟩ : ∃ e,b[i]? = some e:=⟨_,zc0 hi⟩
  rw [h rec i e he hi,zq605 he]
  cases q e
  ·rw [if_neg (by simp),if_neg (by simp),hr]
  ·rw [if_pos rfl,if_pos rfl]
 ·rw [hend,zc18 (zc46 _)]
  rfl
theorem zq414 {step : (A → Option R) → A → Option R} (n pos : Nat) (hp : pos ≤ n) (hn : n < 9223372036854775808) (mk : Nat → Nat → A) (out : R)
  (h : ∀ (rec : A → Option R) (i j : Nat),i < j → i ≤ pos → pos ≤ j → j ≤ n → step rec (mk i j) = if (i + j) / 2 < pos then rec (mk ((i + j) / 2 + 1) j) else rec (mk i ((i + j) / 2)))
  (hend : ∀ rec : A → Option R,step rec (mk pos pos) = some out) : loopN step FUEL (mk 0 n) = some out:=by
 have key : ∀ (N i j : Nat),j - i < N → i ≤ pos → pos ≤ j → j ≤ n → loopN step N (mk i j) = some out:=by
  intro N
  induction N with
  | zero => intro i j h;omega
  | succ N ih =>
   intro i j hN h1 h2 h3
   rw [zq1010]
   by_cases hij : i < j
   ·rw [h _ i j hij h1 h2 h3]
    by_cases hh : (i + j) / 2 < pos
    ·rw [if_pos hh];exact ih _ _ (by omega) (by omega) h2 h3
    ·rw [if_neg hh];exact ih _ _ (by omega) h1 (by omega) (by omega)
   ·have : i = pos:=by omega
    have : j = pos:=by omega
    subst i j
    exact hend _
 exact key FUEL 0 n (zq651 (by omega)) (Nat.zero_le _) hp (zc46 _)
theorem zq450 {step : (A → Option R) → A → Option R} (l : List α) (x : α) (p : Nat) (hp : p ≤ l.length) (hn : l.length < 9223372036854775808) (mk : Nat → List α → A) (out : R)
  (h : ∀ (rec : A → Option R) (k : Nat),p < k → k ≤ l.length → step rec (mk k (l.take k ++ x :: l.drop k)) = rec (mk (k - 1) (l.take (k - 1) ++ x :: l.drop (k - 1))))
  (hend : ∀ rec : A → Option R,step rec (mk p (l.take p ++ x :: l.drop p)) = some out) : loopN step FUEL (mk l.length (l ++ [x])) = some out:=by
 have key : ∀ (N k : Nat),k < N → p ≤ k → k ≤ l.length → loopN step N (mk k (l.take k ++ x :: l.drop k)) = some out:=by
  intro N
  induction N with
  | zero => intro k h;omega
  | succ N ih =>
   intro k hN h1 h2
   rw [zq1010]
   by_cases hk : p < k
   ·rw [h _ k hk h2];exact ih _ (by omega) (by omega) (by omega)
   ·have : k = p:=by omega
    subst this
    exact hend _
 have:=key FUEL l.length (zq651 (by omega)) hp (zc46 _)
 rwa [List.take_length,List.drop_length] at this
theorem zq452 (l : List α) (x : α) (k : Nat) (y : α) (hk : 0 < k) (hl : k ≤ l.length) (hy : l[k - 1]? = some y) : ((l.take k ++ x :: l.drop k).set k y).set (k - 1) x = l.take (k - 1) ++ x :: l.drop (k - 1):=by
 obtain ⟨h1,h2⟩:=zc1.1 hy
 have ht : l.take k = l.take (k - 1) ++ [y]:=by
  have:=zc26 h1
  rw [show k - 1 + 1 = k by omega] at this
  rw [this,h2]
 have hd : l.drop (k - 1) = y :: l.drop k:=by
  have:=List.drop_eq_getElem_cons h1
  rw [show k - 1 + 1 = k by omega] at this
  rw [this,h2]
 have hlen : (l.take (k - 1)).length = k - 1:=by rw [zc20];omega
 rw [ht,hd,List.append_assoc,List.set_append,if_neg (by omega),hlen,show k - (k - 1) = 1 by omega]
 rw [List.set_append,if_neg (by omega),hlen,Nat.sub_self]
 rfl
theorem zq448 (l : List α) (x : α) (k : Nat) (hl : k ≤ l.length) : (l.take k ++ x :: l.drop k)[k]? = some x:=by
 have hlen : (l.take k).length = k:=by rw [zc20];omega
 rw [List.getElem?_append_right (by omega),hlen,Nat.sub_self]
 rfl
theorem zq451 (l : List α) (x : α) (k j : Nat) (hj : j < k) (hl : k ≤ l.length) : (l.take k ++ x :: l.drop k)[j]? = l[j]?:=by
 rw [List.getElem?_append_left (by rw [zc20];omega),zc14,if_pos hj]
theorem zq449 (l : List α) (x : α) (k : Nat) (hl : k ≤ l.length) : (l.take k ++ x :: l.drop k).length = l.length + 1:=by
 simp only [zc24,zc20,zc21,List.length_drop];omega
theorem zq635 {step : (A → Option R) → A → Option R} (b : List α) (q : α → Bool) (mk : Nat → List α → A) (out : List α → R) (hlen : b.length < 9223372036854775808)
  (h : ∀ (rec : A → Option R) (i : Nat) (x : α) (acc : List α),b[i]? = some x → i < b.length → acc.length ≤ i → step rec (mk i acc) = rec (mk (i + 1) (if q x then acc ++ [x] else acc)))
  (hend : ∀ (rec : A → Option R) (acc : List α),step rec (mk b.length acc) = some (out acc)) : loopN step FUEL (mk 0 []) = some (out (b.filter q)):=by
 have:=zq1015 (step:=step) (fun i => mk i ((b.take i).filter q)) b.length (fun _ => some (out (b.filter q))) (fun rec i hi hr => ?_) (fun rec => ?_) FUEL 0 (Nat.zero_le _) (zq651 (by omega))
 ·simpa using this
 ·obtain ⟨e,he⟩ : ∃ e,b[i]? = some e:=⟨_,zc0 hi⟩
  have hle : ((b.take i).filter q).length ≤ i:=Nat.le_trans (List.length_filter_le _ _) (by simp;omega)
  rw [h rec i e _ he hi hle]
  have ht : b.take (i + 1) = b.take i ++ [e]:=by
   rw [zc26 hi,(zc1.1 he).2]
  rw [ht] at hr
  rw [← hr,List.filter_append]
  congr 2
  cases hq : q e <;> simp [List.filter,hq]
 ·rw [hend,List.take_length]
end
theorem zq1206 {α : Type} (ls : List (List α)) : padL ls.length ls = ls:=by simp [padL]
theorem zq1207 {α : Type} {ls : List (List α)} {n : Nat} (h : ls.length = n) : padL n ls = ls:=by subst h;exact zq1206 ls
theorem zq655 {α : Type} (ls : List (List α)) (i : Nat) : getL ls (i : Int) = ls.getD i []:=by
 unfold getL
 rw [if_pos (by omega)]
 rfl
def pfIn (l : List Pf) : Prop:=∀ p ∈ l,p.In ∧ chkP p = 0
def zq1220 (ps : List Pf) (a : Ad) : Option Nat:=zq603 (fun p => holds p a) ps
theorem zq1272 {p q : Pf} (hp : p.In) (hq : q.In) (cp : chkP p = 0) (cq : chkP q = 0) : zq1274 p q = some (over p q || over q p,()):=by
 unfold zq1274
 rw [zq1284 cp hq,zq415,zq1284 cq hp]
 cases over p q <;> rfl
theorem zq93 {p q : Pf} (hp : p.In) (hq : q.In) (cp : chkP p = 0) (cq : chkP q = 0) : zq95 p q = some (over p q || over q p,()):=by
 unfold zq95
 rw [zq144 hp cp hq (zq484 cq),zq415,zq144 hq cq hp (zq484 cp)]
 cases over p q <;> rfl
theorem zq1648 {ps : List Pf} (hp : pfIn ps) (hlen : ps.length ≤ 1048576) (ks : List (List Ad)) (ls : List Ls) (now : Int) {a : Ad} (ha : a.In) : zq1656 (ps,ks) ls now a = some (idxI (zq1220 ps a),()):=by
 unfold zq1656
 have:=zq696 (step:=zq1650) ps (fun p => holds p a) (fun i => (((),(),(lenL ps,()),((i : Int),()),()),(ks,ps,ls,(now,()),(a,()),())))
  (fun o => match o with | some i => Sum.inl ((((i : Int),()),()),(ks,ps,ls,(now,()),(a,()),())) | none => Sum.inr ((),(ks,ps,ls,(now,()),(a,()),()))) (by omega) (fun rec i x hx hi => ?_) (fun rec => ?_)
 ·rw [show ((0 : Nat) : Int) = 0 from rfl] at this
  simp only
  rw [this,zq415]
  unfold zq1220
  cases zq603 (fun p => holds p a) ps <;> rfl
 ·obtain ⟨h1,h2⟩:=hp x (zc5 hx)
  obtain ⟨b1,b2⟩:=zq485 h2
  simp only [zq1650]
  rw [decide_eq_true (show (i : Int) < lenL ps by unfold lenL;omega),zq445,zq1398 (zq699 (by omega) (by unfold lenL;omega)),zq657 hx,zq415,zq1644,zq1260 b1 b2 ha,zq415,zq415]
  cases holds x a
  ·rw [show ((i : Int) + 1) = ((i + 1 : Nat) : Int) by omega,zq443,zq1398 (zq693 (by omega) (by omega)),if_neg (by simp)]
  ·rw [zq445,if_pos rfl]
 ·simp only [zq1650]
  rw [decide_eq_false (show ¬ (ps.length : Int) < lenL ps by unfold lenL;omega),zq443]
theorem zq190 {ps : List Pf} (hp : pfIn ps) (hlen : ps.length ≤ 1048576) (ks : List (List Ad)) (ls : List Ls) (now : Int) {a : Ad} (ha : a.In) (ca : chkA a = 0) : zq192 (ps,ks) ls now a = some (idxI (zq1220 ps a),()):=by
 unfold zq192
 have:=zq696 (step:=zq184) ps (fun p => holds p a) (fun i => (((),(),((i : Int),()),()),(ks,ps,ls,(now,()),(a,()),())))
  (fun o => match o with | some i => Sum.inl ((((i : Int),()),()),(ks,ps,ls,())) | none => Sum.inr ((),(ks,ps,ls,()))) (by omega) (fun rec i x hx hi => ?_) (fun rec => ?_)
 ·rw [show ((0 : Nat) : Int) = 0 from rfl] at this
  simp only
  rw [this,zq415]
  unfold zq1220
  cases zq603 (fun p => holds p a) ps <;> rfl
 ·obtain ⟨h1,h2⟩:=hp x (zc5 hx)
  have r1 : zq697 (i : Int) (lenL ps) = true:=zq699 (by omega) (by unfold lenL;omega)
  simp only [zq184]
  rw [decide_eq_true (show (i : Int) < lenL ps by unfold lenL;omega),zq445,zq1398 r1,zq1398 r1,zq657 hx,zq415,zq138 h1 h2 ha ca,zq415]
  cases holds x a
  ·rw [show ((i : Int) + 1) = ((i + 1 : Nat) : Int) by omega,zq443,zq1398 (zq693 (by omega) (by omega)),if_neg (by simp)]
  ·rw [zq445,if_pos rfl]
 ·simp only [zq184]
  rw [decide_eq_false (show ¬ (ps.length : Int) < lenL ps by unfold lenL;omega),zq443]
def meets (p q : Pf) : Bool:=over p q || over q p
def zq1227 : List Pf → List (List Ad) → Int
 | [],_ => 0
 | p :: r,ks => if zq487 p (ks.headD []) ≠ 0 then zq487 p (ks.headD []) else zq1227 r ks.tail
def adjOk : List Pf → Bool
 | p :: q :: r => decide (ordP p q < 0) && (!meets p q && adjOk (q :: r))
 | _ => true
def stF' (ps : List Pf) (now : Int) : List Ls → List Ls → Int
 | _,[] => 0
 | bf,x :: r => if (zq1220 ps x.ad).isNone = true then 5 else if bf.any (whoP x.who) = true then 6 else if x.upto < now then 4 else stF' ps now (bf ++ [x]) r
def chkS (ps : List Pf) (ks : List (List Ad)) (ls : List Ls) (now : Int) : Int :=
 if ps.length > 3 then 2 else if zq1227 ps ks ≠ 0 then zq1227 ps ks else if adjOk ps = false then 4 else if betw now 0 9999 = false then 3
 else if allC ls now ≠ 0 then allC ls now else stF' ps now [] ls
theorem zq1228 : ∀ {ps : List Pf} {ks : List (List Ad)},zq1227 ps ks = 0 → ∀ (i : Nat) (p : Pf),ps[i]? = some p → zq487 p (ks.getD i []) = 0
 | [],_,_,i,p,h => by simp at h
 | q :: r,ks,h,i,p,hp => by
  unfold zq1227 at h
  by_cases hc : zq487 q (ks.headD []) = 0
  ·rw [if_neg (fun h => h hc)] at h
   match i with
   | 0 =>
    simp only [zc13,zc2] at hp
    subst hp
    cases ks <;> exact hc
   | i + 1 =>
    simp only [zc35] at hp
    have:=zq1228 h i p hp
    cases ks <;> simpa using this
  ·rw [if_pos hc] at h;exact absurd h hc
theorem zq1230 {ps : List Pf} {ks : List (List Ad)} {i : Nat} {p : Pf} (h : ps[i]? = some p) : zq1227 (ps.drop i) (ks.drop i) = if zq487 p (ks.getD i []) ≠ 0 then zq487 p (ks.getD i []) else zq1227 (ps.drop (i + 1)) (ks.drop (i + 1)):=by
 rw [zq568 h,zq1227]
 have e1 : (ks.drop i).headD [] = ks.getD i []:=by
  rw [zc3,List.headD_eq_head?_getD,List.head?_drop]
 have e2 : (ks.drop i).tail = ks.drop (i + 1):=by rw [List.tail_drop]
 rw [e1,e2]
end Go.Ma
namespace Go.Ma
open Go
def kV (v : Bool) : Int:=if v then 1 else 0
theorem zq1171 (a b : Ad) : (ordA a b < 0 ↔ kV a.v6 < kV b.v6 ∨ (kV a.v6 = kV b.v6 ∧ (a.hi < b.hi ∨ (a.hi = b.hi ∧ a.lo < b.lo)))) ∧ (ordA a b = 0 ↔ kV a.v6 = kV b.v6 ∧ a.hi = b.hi ∧ a.lo = b.lo):=by
 unfold ordA ordI kV
 cases a.v6 <;> cases b.v6 <;> simp <;> (by_cases h1 : a.hi = b.hi <;> simp [h1] <;> constructor <;> (repeat' split) <;> omega)
theorem zq1174 (p q : Pf) : ordP p q < 0 ↔ kV p.ad.v6 < kV q.ad.v6 ∨ (kV p.ad.v6 = kV q.ad.v6 ∧ (p.ad.hi < q.ad.hi ∨ (p.ad.hi = q.ad.hi ∧ (p.ad.lo < q.ad.lo ∨ (p.ad.lo = q.ad.lo ∧ p.bits < q.bits))))):=by
 obtain ⟨h1,h2⟩:=zq1171 p.ad q.ad
 unfold ordP
 split <;> omega
theorem zq752 {v w : Bool} (h : kV v = kV w) : v = w:=by cases v <;> cases w <;> first | rfl | (exact absurd h (by decide))
theorem zq1178 {p q r : Pf} (h1 : ordP p q < 0) (h2 : ordP q r < 0) : ordP p r < 0:=by
 rw [zq1174] at h1 h2 ⊢
 omega
theorem zq1177 (p : Pf) : ordP p p = 0:=by
 have h:=(zq1171 p.ad p.ad).2.2 ⟨rfl,rfl,rfl⟩
 unfold ordP
 rw [if_neg (fun h' => h' h)]
 omega
end Go.Ma
namespace Go.Ma
open Go
theorem zq490 {A R : Type} {step : (A → Option R) → A → Option R} (n i0 : Nat) (hi0 : i0 ≤ n) (hn : n < 9223372036854775808) (c F : Nat → Int) (mk : Nat → A) (ok : R) (err : Int → R)
  (hF : ∀ i,i0 ≤ i → i < n → F i = if c i ≠ 0 then c i else F (i + 1)) (hFn : F n = 0)
  (h : ∀ (rec : A → Option R) (i : Nat),i0 ≤ i → i < n → (∀ j,i0 ≤ j → j < i → c j = 0) → step rec (mk i) = if c i ≠ 0 then some (err (c i)) else rec (mk (i + 1)))
  (hend : ∀ rec : A → Option R,(∀ j,i0 ≤ j → j < n → c j = 0) → step rec (mk n) = some ok) : loopN step FUEL (mk i0) = some (if F i0 = 0 then ok else err (F i0)):=by
 have key : ∀ (N i : Nat),i0 ≤ i → n - i < N → i ≤ n → (∀ j,i0 ≤ j → j < i → c j = 0) → loopN step N (mk i) = some (if F i = 0 then ok else err (F i)):=by
  intro N
  induction N with
  | zero => intro i _ h;omega
  | succ N ih =>
   intro i hi hN hin hp
   rw [zq1010]
   by_cases hlt : i < n
   ·have e1:=hF i hi hlt
    by_cases hc : c i = 0
    ·rw [if_neg (fun h => h hc)] at e1
     rw [h _ i hi hlt hp,if_neg (fun h => h hc),e1]
     exact ih (i + 1) (by omega) (by omega) (by omega) (fun j h1 h2 => by
      by_cases hj : j = i
      ·rw [hj];exact hc
      ·exact hp j h1 (by omega))
    ·rw [if_pos hc] at e1
     rw [h _ i hi hlt hp,if_pos hc,e1,if_neg hc]
   ·have : i = n:=by omega
    subst this
    rw [hend _ hp,hFn,if_pos rfl]
 exact key FUEL i0 (zc46 _) (zq651 (by omega)) hi0 (fun j h1 h2 => by omega)
theorem zq1382 {A R : Type} {step : (A → Option R) → A → Option R} (n : Nat) (hn : n < 9223372036854775808) (c F : Nat → Int) (mk : Int → Nat → A) (out : Int → R) (hF : ∀ i,i < n → F i = if c i ≠ 0 then c i else F (i + 1)) (hFn : F n = 0)
  (hstop : ∀ (rec : A → Option R) (e : Int) (i : Nat),e ≠ 0 → step rec (mk e i) = some (out e))
  (h : ∀ (rec : A → Option R) (i : Nat),i < n → (∀ j,j < i → c j = 0) → step rec (mk 0 i) = rec (mk (c i) (i + 1)))
  (hend : ∀ rec : A → Option R,step rec (mk 0 n) = some (out 0)) : loopN step FUEL (mk 0 0) = some (out (F 0)):=by
 have key : ∀ (N i : Nat),n - i + 1 < N → i ≤ n → (∀ j,j < i → c j = 0) → loopN step N (mk 0 i) = some (out (F i)):=by
  intro N
  induction N with
  | zero => intro i h;omega
  | succ N ih =>
   intro i hN hin hp
   rw [zq1010]
   by_cases hlt : i < n
   ·rw [h _ i hlt hp,hF i hlt]
    by_cases hc : c i = 0
    ·rw [hc,if_neg (fun h => h rfl)]
     exact ih (i + 1) (by omega) (by omega) (fun j h1 => by
      by_cases hj : j = i
      ·rw [hj];exact hc
      ·exact hp j (by omega))
    ·rw [if_pos hc]
     match N,hN with
     | N + 1,_ => rw [zq1010,hstop _ _ _ hc]
   ·have : i = n:=by omega
    subst this
    rw [hend,hFn]
 exact key FUEL 0 (zq651 (by omega)) (Nat.zero_le _) (fun j h1 => by omega)
theorem zq1179 {p q : Pf} (h1 : ¬ ordP p q < 0) (h2 : ¬ ordP q p < 0) : ordP q p = 0:=by
 rw [zq1174] at h1 h2
 have h3:=(zq1171 q.ad p.ad).2.2 (by omega)
 unfold ordP
 rw [if_neg (fun h' => h' h3)]
 omega
theorem zq1175 {p q : Pf} : ordP q p > 0 ↔ ordP p q < 0:=by
 constructor
 ·intro h
  by_cases h1 : ordP p q < 0
  ·exact h1
  ·have:=zq1179 h1 (by omega : ¬ ordP q p < 0)
   omega
 ·intro h
  by_cases h1 : ordP q p < 0
  ·have:=zq1178 h h1
   rw [zq1177] at this
   omega
  ·by_cases h0 : ordP q p = 0
   ·rw [zq1174] at h
    by_cases hA : ordA q.ad p.ad = 0
    ·have h5:=(zq1171 q.ad p.ad).2.1 hA
     unfold ordP at h0
     rw [if_neg (fun h' => h' hA)] at h0
     omega
    ·unfold ordP at h0
     rw [if_pos hA] at h0
     exact absurd h0 hA
   ·omega
theorem zq357 {p q : Pf} (hp : p.In) (hq : q.In) : zq356 p q = decide (ordP p q < 0):=by
 rw [← zq1180 hp hq]
 exact decide_eq_decide.2 zq1175
theorem zq1176 {p q : Pf} (hp : p.In) (hq : q.In) (h : ordP p q < 0) : rank p.ad ≤ rank q.ad:=by
 obtain ⟨h1,h2⟩:=zq1181 hp.1 hq.1
 unfold ordP at h
 split at h
 ·have:=h1.1 h;omega
 ·rename_i h3
  have:=h2.1 (zc48.1 h3);omega
theorem zq1348 {a b : Ad} (ha : a.In) (hb : b.In) (h : rank a ≤ rank b) (hv : a.v6 = b.v6) : a.num ≤ b.num:=by
 unfold rank at h
 rw [hv] at h
 omega
theorem zq1349 {a b c : Ad} (ha : a.In) (hb : b.In) (hc : c.In) (h : rank a ≤ rank b) (h2 : rank b ≤ rank c) (hv : a.v6 = c.v6) : a.v6 = b.v6 ∧ b.v6 = c.v6:=by
 have h3:=zq1093 ha
 have h4:=zq1093 hb
 have h5:=zq1093 hc
 unfold rank at h h2
 rw [← hv] at h2 ⊢
 cases hav : a.v6 <;> cases hbv : b.v6 <;> simp only [hav,hbv,if_true,zc16,if_false] at h h2 <;> first | exact ⟨rfl,rfl⟩ | (exfalso;omega)
theorem zq1042 (p q : Pf) : meets p q = meets q p:=by unfold meets;exact Bool.or_comm _ _
theorem zq1044 {p q : Pf} (hp : p.In) (hq : q.In) (cp : chkP p = 0) (cq : chkP q = 0) (hv : p.ad.v6 = q.ad.v6) (h1 : q.ad.num ≤ p.ad.num + (2 ^ free p - 1)) (h2 : p.ad.num ≤ q.ad.num + (2 ^ free q - 1)) : meets p q = true:=by
 unfold meets
 by_cases hb : p.bits ≤ q.bits
 ·rw [zq394 hp hq cp cq hv h1 h2 hb];rfl
 ·rw [zq394 hq hp cq cp hv.symm h2 h1 (by omega)];simp
theorem zq1043 {p q : Pf} (hp : p.In) (hq : q.In) (cp : chkP p = 0) (cq : chkP q = 0) : meets p q = true ↔ p.ad.v6 = q.ad.v6 ∧ q.ad.num ≤ p.ad.num + (2 ^ free p - 1) ∧ p.ad.num ≤ q.ad.num + (2 ^ free q - 1):=by
 constructor
 ·intro h
  unfold meets at h
  rw [Bool.or_eq_true] at h
  have e1:=Nat.two_pow_pos (free p)
  have e2:=Nat.two_pow_pos (free q)
  rcases h with h | h
  ·obtain ⟨h1,h2,h3⟩:=(zq691 hp cp hq.1).1 (zq1189.1 h).2
   exact ⟨h1,by omega,by omega⟩
  ·obtain ⟨h1,h2,h3⟩:=(zq691 hq cq hp.1).1 (zq1189.1 h).2
   exact ⟨h1.symm,by omega,by omega⟩
 ·rintro ⟨h1,h2,h3⟩
  exact zq1044 hp hq cp cq h1 h2 h3
theorem zq1041 {p q r : Pf} (hp : p.In) (hq : q.In) (hr : r.In) (cp : chkP p = 0) (cq : chkP q = 0) (cr : chkP r = 0) (h1 : ordP p q < 0) (h2 : ordP q r < 0) (h : meets p r = true) : meets p q = true:=by
 obtain ⟨m1,m2,m3⟩:=(zq1043 hp hr cp cr).1 h
 have r1:=zq1176 hp hq h1
 have r2:=zq1176 hq hr h2
 obtain ⟨v1,v2⟩:=zq1349 hp.1 hq.1 hr.1 r1 r2 m1
 have n1:=zq1348 hp.1 hq.1 r1 v1
 have n2:=zq1348 hq.1 hr.1 r2 v2
 exact zq1044 hp hq cp cq v1 (by omega) (by omega)
def zq391 (p q : Pf) : Prop:=ordP p q < 0 ∧ meets p q = false
theorem zq353 : ∀ {ps : List Pf},pfIn ps → (adjOk ps = true ↔ ps.Pairwise zq391)
 | [],_ => by simp [adjOk]
 | [p],_ => by simp [adjOk]
 | p :: q :: r,h => by
  have h' : pfIn (q :: r):=fun x hx => h x (List.mem_cons_of_mem _ hx)
  have ih:=zq353 h'
  have hp:=h p List.mem_cons_self
  have hq:=h q (List.mem_cons_of_mem _ List.mem_cons_self)
  simp only [adjOk,zc4,decide_eq_true_eq,Bool.not_eq_true']
  rw [ih]
  constructor
  ·rintro ⟨h1,h2,h3⟩
   refine zc44.2 ⟨fun x hx => ?_,h3⟩
   rcases zc28.1 hx with rfl | hx
   ·exact ⟨h1,h2⟩
   ·have hqx:=(zc44.1 h3).1 x hx
    have hxi:=h' x (List.mem_cons_of_mem _ hx)
    refine ⟨zq1178 h1 hqx.1,?_⟩
    cases hm : meets p x
    ·rfl
    ·rw [zq1041 hp.1 hq.1 hxi.1 hp.2 hq.2 hxi.2 h1 hqx.1 hm] at h2
     cases h2
  ·intro hh
   obtain ⟨h1,h2⟩:=zc44.1 hh
   have:=h1 q List.mem_cons_self
   exact ⟨this.1,this.2,h2⟩
def kpIn (ks : List (List Ad)) : Prop:=∀ k ∈ ks,adIn k
theorem kp_at {ks : List (List Ad)} (h : kpIn ks) (i : Nat) : adIn (ks.getD i []):=by
 rw [zc3]
 cases he : ks[i]? with
 | none => intro a ha;cases ha
 | some k => exact h k (zc5 he)
def cPool (ps : List Pf) (ks : List (List Ad)) (i : Nat) : Int:=match ps[i]? with | some p => zq487 p (ks.getD i []) | none => 0
theorem zq463 {ps : List Pf} {ks : List (List Ad)} {i : Nat} {p : Pf} (h : ps[i]? = some p) : cPool ps ks i = zq487 p (ks.getD i []):=by unfold cPool;rw [h]
theorem zq493 {ps : List Pf} (hp : ∀ p ∈ ps,p.In) {ks : List (List Ad)} (hk : kpIn ks) (hlen : ps.length ≤ 1048576) (ls : List Ls) (now : Int) :
  loopN zq1557 FUEL (((),(),(lenL ps,()),(0,()),()),(ks,ps,ls,(now,()),())) = some (if zq1227 ps ks = 0 then Sum.inr (((),()),(ks,ps,ls,(now,()),())) else Sum.inl (((zq1227 ps ks,()),()),(ks,ps,ls,()))):=by
 have:=zq490 (step:=zq1557) ps.length 0 (Nat.zero_le _) (by omega) (cPool ps ks) (fun i => zq1227 (ps.drop i) (ks.drop i)) (fun i => (((),(),(lenL ps,()),((i : Int),()),()),(ks,ps,ls,(now,()),())))
  (Sum.inr (((),()),(ks,ps,ls,(now,()),()))) (fun e => Sum.inl (((e,()),()),(ks,ps,ls,()))) (fun i _ hi => ?_) (by simp [zq1227]) (fun rec i _ hi _ => ?_) (fun rec _ => ?_)
 ·simpa using this
 ·obtain ⟨e,he⟩ : ∃ e,ps[i]? = some e:=⟨_,zc0 hi⟩
  rw [zq463 he,← zq1230 he]
 ·obtain ⟨e,he⟩ : ∃ e,ps[i]? = some e:=⟨_,zc0 hi⟩
  rw [zq463 he]
  simp only [zq1557]
  rw [decide_eq_true (show (i : Int) < lenL ps by unfold lenL;omega),zq445,zq1398 (zq699 (by omega) (by unfold lenL;omega)),zq657 he,zq415,zq655,zq936 (hp e (zc5 he)) (kp_at hk i),zq415]
  by_cases hc : zq487 e (ks.getD i []) = 0
  ·rw [decide_eq_true hc,if_neg (fun h => h hc),zc10,zq443,show ((i : Int) + 1) = ((i + 1 : Nat) : Int) by omega,zq1398 (zq693 (by omega) (by omega))]
  ·rw [decide_eq_false hc,if_pos hc,zc19,zq445]
 ·simp only [zq1557]
  rw [decide_eq_false (show ¬ (ps.length : Int) < lenL ps by unfold lenL;omega),zq443]
theorem zq1358 {ps : List Pf} (hp : ∀ p ∈ ps,p.In) {ks : List (List Ad)} (hk : kpIn ks) (hlen : ps.length ≤ 1048576) (ls : List Ls) (now : Int) :
  loopN zq81 FUEL (((),(0,()),()),(ks,ps,ls,(now,()),())) = some (if zq1227 ps ks = 0 then Sum.inr (((),()),(ks,ps,ls,(now,()),())) else Sum.inl (((zq1227 ps ks,()),()),(ks,ps,ls,()))):=by
 have:=zq490 (step:=zq81) ps.length 0 (Nat.zero_le _) (by omega) (cPool ps ks) (fun i => zq1227 (ps.drop i) (ks.drop i)) (fun i => (((),((i : Int),()),()),(ks,ps,ls,(now,()),())))
  (Sum.inr (((),()),(ks,ps,ls,(now,()),()))) (fun e => Sum.inl (((e,()),()),(ks,ps,ls,()))) (fun i _ hi => ?_) (by simp [zq1227]) (fun rec i _ hi _ => ?_) (fun rec _ => ?_)
 ·simpa using this
 ·obtain ⟨e,he⟩ : ∃ e,ps[i]? = some e:=⟨_,zc0 hi⟩
  rw [zq463 he,← zq1230 he]
 ·obtain ⟨e,he⟩ : ∃ e,ps[i]? = some e:=⟨_,zc0 hi⟩
  rw [zq463 he]
  simp only [zq81]
  rw [decide_eq_true (show (i : Int) < lenL ps by unfold lenL;omega),zq445,zq1398 (zq699 (by omega) (by unfold lenL;omega)),zq657 he,zq415,zq655,zq60 (hp e (zc5 he)) (kp_at hk i),zq415]
  by_cases hc : zq487 e (ks.getD i []) = 0
  ·rw [decide_eq_true hc,if_neg (fun h => h hc),zc10,zq443,show ((i : Int) + 1) = ((i + 1 : Nat) : Int) by omega,zq1398 (zq693 (by omega) (by omega))]
  ·rw [decide_eq_false hc,if_pos hc,zc19,zq445]
 ·simp only [zq81]
  rw [decide_eq_false (show ¬ (ps.length : Int) < lenL ps by unfold lenL;omega),zq443]
theorem adj_at {ps : List Pf} {i : Nat} (h1 : 1 ≤ i) {p q : Pf} (hp : ps[i - 1]? = some p) (hq : ps[i]? = some q) : adjOk (ps.drop (i - 1)) = (decide (ordP p q < 0) && (!meets p q && adjOk (ps.drop i))):=by
 have e : ps.drop i = q :: ps.drop (i + 1):=zq568 hq
 have e2 : ps.drop (i - 1) = p :: ps.drop i:=by
  have:=zq568 hp
  rwa [show i - 1 + 1 = i by omega] at this
 rw [e2,e,adjOk]
def adjI (ps : List Pf) (i : Nat) : Int:=if adjOk (ps.drop (i - 1)) = true then 0 else 4
def cAdj (ps : List Pf) (i : Nat) : Int:=match ps[i - 1]?,ps[i]? with | some p,some q => if ordP p q < 0 ∧ meets p q = false then 0 else 4 | _,_ => 0
theorem zq491 {ps : List Pf} (hp : pfIn ps) (ks : List (List Ad)) (hlen : ps.length ≤ 1048576) (ls : List Ls) (now : Int) :
  loopN zq1551 FUEL (((),(1,()),()),(ks,ps,ls,(now,()),())) = some (if adjOk ps = true then Sum.inr (((),()),(ks,ps,ls,(now,()),())) else Sum.inl (((4,()),()),(ks,ps,ls,()))):=by
 by_cases h0 : ps.length = 0
 ·have : ps = []:=List.eq_nil_of_length_eq_zero h0
  subst this
  rfl
 have:=zq490 (step:=zq1551) ps.length 1 (by omega) (by omega) (cAdj ps) (adjI ps) (fun i => (((),((i : Int),()),()),(ks,ps,ls,(now,()),())))
  (Sum.inr (((),()),(ks,ps,ls,(now,()),()))) (fun e => Sum.inl (((e,()),()),(ks,ps,ls,()))) (fun i h1 hi => ?_) ?_ (fun rec i h1 hi _ => ?_) (fun rec _ => ?_)
 ·rw [show ((1 : Nat) : Int) = 1 from rfl] at this
  rw [this]
  unfold adjI
  rw [show (1 : Nat) - 1 = 0 from rfl,List.drop_zero]
  cases adjOk ps <;> rfl
 ·obtain ⟨q,hq⟩ : ∃ e,ps[i]? = some e:=⟨_,zc0 hi⟩
  obtain ⟨p,hp'⟩ : ∃ e,ps[i - 1]? = some e:=⟨_,zc0 (by omega)⟩
  unfold adjI cAdj
  rw [adj_at h1 hp' hq,hp',hq,show i + 1 - 1 = i by omega]
  simp only
  by_cases ho : ordP p q < 0 <;> cases hm : meets p q <;> simp [ho]
 ·unfold adjI
  have : adjOk (ps.drop (ps.length - 1)) = true:=by
   obtain ⟨p,hp'⟩ : ∃ e,ps[ps.length - 1]? = some e:=⟨_,zc0 (by omega)⟩
   rw [zq568 hp',show ps.length - 1 + 1 = ps.length by omega,List.drop_length]
   rfl
  rw [this];rfl
 ·obtain ⟨q,hq⟩ : ∃ e,ps[i]? = some e:=⟨_,zc0 hi⟩
  obtain ⟨p,hp'⟩ : ∃ e,ps[i - 1]? = some e:=⟨_,zc0 (by omega)⟩
  obtain ⟨p1,p2⟩:=hp p (zc5 hp')
  obtain ⟨q1,q2⟩:=hp q (zc5 hq)
  have r1 : zq697 ((i : Int) - 1) (lenL ps) = true:=zq699 (by omega) (by unfold lenL;omega)
  have r2 : zq697 (i : Int) (lenL ps) = true:=zq699 (by omega) (by unfold lenL;omega)
  have r3 : i64ok ((i : Int) - 1) = true:=zq693 (by omega) (by omega)
  have hg : geti ps ((i : Int) - 1) = some p:=by rw [show ((i : Int) - 1) = ((i - 1 : Nat) : Int) by omega];exact zq657 hp'
  unfold cAdj
  rw [hp',hq]
  simp only [zq1551]
  simp only [r1,r2,r3,zq1400,hg,zq657 hq,zq415,zq1278 p2 q2,zq1272 p1 q1 p2 q2]
  rw [decide_eq_true (show (i : Int) < lenL ps by unfold lenL;omega),zq445]
  by_cases ho : ordP p q < 0
  ·rw [decide_eq_false (show ¬ ordP p q ≥ 0 by omega),zq443,zq415]
   cases hm : meets p q
   ·rw [show (over p q || over q p) = false from hm,zq443,show ((i : Int) + 1) = ((i + 1 : Nat) : Int) by omega,zq1398 (zq693 (by omega) (by omega))]
    simp [ho]
   ·rw [show (over p q || over q p) = true from hm,zq445]
    simp
  ·rw [decide_eq_true (show ordP p q ≥ 0 by omega),zq445,zq415,zq445]
   simp [ho]
 ·simp only [zq1551]
  rw [decide_eq_false (show ¬ (ps.length : Int) < lenL ps by unfold lenL;omega),zq443]
def badP (p q : Pf) : Bool:=!decide (ordP p q < 0) || meets p q
def cBad (ps : List Pf) (q : Pf) (k : Nat) : Int:=match ps[k]? with | some p => if badP p q = true then 4 else 0 | none => 0
def zq379 (ps : List Pf) (q : Pf) (i k : Nat) : Int:=if ((ps.take i).drop k).any (fun p => badP p q) = true then 4 else 0
theorem zq1356 {ps : List Pf} (hp : pfIn ps) (ks : List (List Ad)) (hlen : ps.length ≤ 1048576) (ls : List Ls) (now : Int) {i : Nat} {q : Pf} (hq : ps[i]? = some q) :
  loopN zq75 FUEL (((),((i : Int),()),(0,()),()),(ks,ps,ls,(now,()),())) = some (if (ps.take i).any (fun p => badP p q) = true then Sum.inl (((4,()),()),(ks,ps,ls,())) else Sum.inr (((),((i : Int),()),()),(ks,ps,ls,(now,()),()))):=by
 have hi:=(zc1.1 hq).1
 have:=zq490 (step:=zq75) i 0 (Nat.zero_le _) (by omega) (cBad ps q) (zq379 ps q i) (fun k => (((),((i : Int),()),((k : Int),()),()),(ks,ps,ls,(now,()),())))
  (Sum.inr (((),((i : Int),()),()),(ks,ps,ls,(now,()),()))) (fun e => Sum.inl (((e,()),()),(ks,ps,ls,()))) (fun k _ hk => ?_) ?_ (fun rec k _ hk _ => ?_) (fun rec _ => ?_)
 ·rw [show ((0 : Nat) : Int) = 0 from rfl] at this
  rw [this]
  unfold zq379
  rw [List.drop_zero]
  cases (ps.take i).any (fun p => badP p q) <;> rfl
 ·obtain ⟨p,hp'⟩ : ∃ e,ps[k]? = some e:=⟨_,zc0 (by omega)⟩
  have ht : (ps.take i)[k]? = some p:=by rw [zc14,if_pos hk,hp']
  unfold cBad zq379
  rw [hp',zq568 ht,List.any_cons]
  dsimp only
  by_cases hb : badP p q = true <;> simp [hb]
 ·unfold zq379
  rw [zc18 (by simp;omega)]
  rfl
 ·obtain ⟨p,hp'⟩ : ∃ e,ps[k]? = some e:=⟨_,zc0 (by omega)⟩
  obtain ⟨p1,p2⟩:=hp p (zc5 hp')
  obtain ⟨q1,q2⟩:=hp q (zc5 hq)
  have r1 : zq697 (k : Int) (lenL ps) = true:=zq699 (by omega) (by unfold lenL;omega)
  have r2 : zq697 (i : Int) (lenL ps) = true:=zq699 (by omega) (by unfold lenL;omega)
  unfold cBad
  rw [hp']
  simp only [zq75]
  simp only [r1,r2,zq1400,zq657 hp',zq657 hq,zq415,zq196 p1 q1 p2 q2,zq93 p1 q1 p2 q2,zq357 p1 q1]
  rw [decide_eq_true (show (k : Int) < (i : Int) by omega),zq445]
  unfold badP meets
  by_cases ho : ordP p q < 0
  ·simp only [ho,decide_true,zc10,zq443,zq415,Bool.false_or]
   cases (over p q || over q p)
   ·rw [zq443,show ((k : Int) + 1) = ((k + 1 : Nat) : Int) by omega,zq1398 (zq693 (by omega) (by omega))]
    rfl
   ·rfl
  ·simp only [ho,decide_false,zc19,zq445,zq415,Bool.true_or]
   rfl
 ·simp only [zq75]
  rw [decide_eq_false (show ¬ (i : Int) < (i : Int) by omega),zq443]
def cRow (ps : List Pf) (i : Nat) : Int:=match ps[i]? with | some q => if (ps.take i).any (fun p => badP p q) = true then 4 else 0 | none => 0
def rowsF (ps : List Pf) : Nat → Nat → Int
 | 0,_ => 0
 | k + 1,i => if cRow ps i ≠ 0 then cRow ps i else rowsF ps k (i + 1)
theorem zq464 (ps : List Pf) (i : Nat) : cRow ps i = 0 ∨ cRow ps i = 4:=by
 unfold cRow
 split
 ·split <;> simp
 ·simp
theorem zq1436 (ps : List Pf) : ∀ (k i : Nat),(rowsF ps k i = 0 ∨ rowsF ps k i = 4) ∧ (rowsF ps k i = 0 ↔ ∀ j,i ≤ j → j < i + k → cRow ps j = 0)
 | 0,i => ⟨.inl rfl,fun _ j h1 h2 => by omega,fun _ => rfl⟩
 | k + 1,i => by
  obtain ⟨h1,h2⟩:=zq1436 ps k (i + 1)
  rw [rowsF]
  by_cases hc : cRow ps i = 0
  ·rw [if_neg (fun h => h hc)]
   refine ⟨h1,h2.trans ⟨fun h j g1 g2 => ?_,fun h j g1 g2 => h j (by omega) (by omega)⟩⟩
   by_cases hj : j = i
   ·rw [hj];exact hc
   ·exact h j (by omega) (by omega)
  ·rw [if_pos hc]
   exact ⟨zq464 ps i,fun h => absurd h hc,fun h => h i (zc46 _) (by omega)⟩
theorem zq1212 {ps : List Pf} : ps.Pairwise zq391 ↔ ∀ j,j < ps.length → cRow ps j = 0:=by
 rw [List.pairwise_iff_getElem]
 constructor
 ·intro h j hj
  unfold cRow
  rw [zc0 hj]
  simp only
  rw [if_neg]
  intro ha
  obtain ⟨p,hp,hb⟩:=List.any_eq_true.1 ha
  obtain ⟨k,hk⟩:=zc30.1 hp
  rw [zc14] at hk
  split at hk
  ·rename_i hkj
   obtain ⟨hk1,hk2⟩:=zc1.1 hk
   obtain ⟨g1,g2⟩:=h k j hk1 hj hkj
   rw [hk2] at g1 g2
   simp [badP,g1,g2] at hb
  ·cases hk
 ·intro h k j hk hj hkj
  have:=h j hj
  unfold cRow at this
  rw [zc0 hj] at this
  simp only at this
  have hn : ¬ (ps.take j).any (fun p => badP p ps[j]) = true:=fun h => by rw [if_pos h] at this;cases this
  rw [Bool.not_eq_true,List.any_eq_false] at hn
  have:=hn ps[k] (zc30.2 ⟨k,by rw [zc14,if_pos hkj,zc0 hk]⟩)
  unfold badP at this
  simp only [Bool.or_eq_true,Bool.not_eq_true',decide_eq_false_iff_not,not_or,zc48,Bool.not_eq_true] at this
  exact this
theorem zq1355 {ps : List Pf} (hp : pfIn ps) (ks : List (List Ad)) (hlen : ps.length ≤ 1048576) (ls : List Ls) (now : Int) :
  loopN zq72 FUEL (((),(0,()),()),(ks,ps,ls,(now,()),())) = some (if adjOk ps = true then Sum.inr (((),()),(ks,ps,ls,(now,()),())) else Sum.inl (((4,()),()),(ks,ps,ls,()))):=by
 have:=zq490 (step:=zq72) ps.length 0 (Nat.zero_le _) (by omega) (cRow ps) (fun i => rowsF ps (ps.length - i) i) (fun i => (((),((i : Int),()),()),(ks,ps,ls,(now,()),())))
  (Sum.inr (((),()),(ks,ps,ls,(now,()),()))) (fun e => Sum.inl (((e,()),()),(ks,ps,ls,()))) (fun i _ hi => ?_) (by simp [rowsF]) (fun rec i _ hi _ => ?_) (fun rec _ => ?_)
 ·rw [show ((0 : Nat) : Int) = 0 from rfl] at this
  rw [this,Nat.sub_zero]
  obtain ⟨z1,z2⟩:=zq1436 ps ps.length 0
  by_cases ha : adjOk ps = true
  ·have:=zq1212.1 ((zq353 hp).1 ha)
   have hall : ∀ j,0 ≤ j → j < 0 + ps.length → cRow ps j = 0:=fun j _ h => this j (by omega)
   rw [if_pos ha,if_pos (z2.2 hall)]
  ·have hall : ¬ ∀ j,0 ≤ j → j < 0 + ps.length → cRow ps j = 0:=fun h => ha ((zq353 hp).2 (zq1212.2 fun j hj => h j (Nat.zero_le _) (by omega)))
   have hz : ¬ rowsF ps ps.length 0 = 0:=fun h => hall (z2.1 h)
   rw [if_neg ha,if_neg hz,z1.resolve_left hz]
 ·show rowsF ps (ps.length - i) i = _
  rw [show ps.length - i = (ps.length - (i + 1)) + 1 by omega,rowsF]
 ·obtain ⟨q,hq⟩ : ∃ e,ps[i]? = some e:=⟨_,zc0 hi⟩
  unfold cRow
  rw [hq]
  simp only [zq72]
  rw [decide_eq_true (show (i : Int) < lenL ps by unfold lenL;omega),zq445,zq1356 hp ks hlen ls now hq,zq415]
  cases (ps.take i).any (fun p => badP p q)
  ·show req (i64ok ((i : Int) + 1)) _ = _
   rw [show ((i : Int) + 1) = ((i + 1 : Nat) : Int) by omega,zq1398 (zq693 (by omega) (by omega))]
   rfl
  ·rfl
 ·simp only [zq72]
  rw [decide_eq_false (show ¬ (ps.length : Int) < lenL ps by unfold lenL;omega),zq443]
end Go.Ma
namespace Go.Ma
open Go
theorem zq1014 {A R : Type} {step : (A → Option R) → A → Option R} {x : A} {r : Option R} (h : ∀ rec,step rec x = r) : loopN step FUEL x = r:=by
 have : FUEL = (FUEL - 1) + 1:=by
  have:=zq651 (n:=0) (by omega)
  omega
 rw [this,zq1010,h]
theorem zq1704 {l : List Ls} : ∀ i : Nat,i ≤ l.length → (∀ (j : Nat) (x : Ls),j < i → l[j]? = some x → (l.take j).any (whoP x.who) = false) → zq1699 [] (l.take i) = false
 | 0,_,_ => rfl
 | i + 1,hi,h => by
  obtain ⟨x,hx⟩ : ∃ e,l[i]? = some e:=⟨_,zc0 (by omega)⟩
  rw [zq1685 hx,zq1700,zq1704 i (by omega) (fun j x hj => h j x (by omega)),h i x (by omega) hx]
  rfl
def cLs (ps : List Pf) (now : Int) (ls : List Ls) (i : Nat) : Int:=match ls[i]? with | some x => if (zq1220 ps x.ad).isNone = true then 5 else if (ls.take i).any (whoP x.who) = true then 6 else if x.upto < now then 4 else 0 | none => 0
theorem zq461 {ps : List Pf} {now : Int} {ls : List Ls} {i : Nat} {x : Ls} (h : ls[i]? = some x) : cLs ps now ls i = if (zq1220 ps x.ad).isNone = true then 5 else if (ls.take i).any (whoP x.who) = true then 6 else if x.upto < now then 4 else 0:=by unfold cLs;rw [h]
theorem zq1544 {ps : List Pf} {now : Int} {ls : List Ls} {i : Nat} (hi : i < ls.length) : stF' ps now (ls.take i) (ls.drop i) = if cLs ps now ls i ≠ 0 then cLs ps now ls i else stF' ps now (ls.take (i + 1)) (ls.drop (i + 1)):=by
 obtain ⟨x,hx⟩ : ∃ e,ls[i]? = some e:=⟨_,zc0 hi⟩
 rw [zq568 hx,stF',zq461 hx,zq1685 hx]
 by_cases h1 : (zq1220 ps x.ad).isNone = true
 ·simp only [h1,if_true];simp
 ·by_cases h2 : (ls.take i).any (whoP x.who) = true
  ·simp only [h1,h2,if_true];simp
  ·by_cases h3 : x.upto < now
   ·simp only [h1,h2,h3,if_true];simp
   ·simp only [h1,h2,h3];simp
theorem zq462 {ps : List Pf} {now : Int} {ls : List Ls} {i : Nat} {x : Ls} (h : ls[i]? = some x) (hc : cLs ps now ls i = 0) : (ls.take i).any (whoP x.who) = false:=by
 rw [zq461 h] at hc
 split at hc
 ·cases hc
 ·split at hc
  ·cases hc
  ·rename_i h2;simpa using h2
theorem zq694 (o : Option Nat) : decide (idxI o < 0) = o.isNone:=by
 cases o with
 | none => rfl
 | some k =>
  have : ¬ idxI (some k) < 0:=by show ¬ (k : Int) < 0;omega
  simp [this]
theorem zq492 {ps : List Pf} (hp : pfIn ps) (hlen : ps.length ≤ 1048576) (ks : List (List Ad)) {ls : List Ls} (hl : lsIn ls) (hc : ∀ x ∈ ls,chkLs x = 0) (h20 : ls.length ≤ 20) (now : Int) :
  loopN zq1554 FUEL (((),(),(lenL ls,()),(0,()),()),(ks,ps,ls,(now,()),())) = some (if stF' ps now [] ls = 0 then Sum.inr ((),(ks,ps,ls,())) else Sum.inl (((stF' ps now [] ls,()),()),(ks,ps,ls,()))):=by
 have:=zq490 (step:=zq1554) ls.length 0 (Nat.zero_le _) (by omega) (cLs ps now ls) (fun i => stF' ps now (ls.take i) (ls.drop i)) (fun i => (((),(),(lenL ls,()),((i : Int),()),()),(ks,ps,ls,(now,()),())))
  (Sum.inr ((),(ks,ps,ls,()))) (fun e => Sum.inl (((e,()),()),(ks,ps,ls,()))) (fun i _ hi => zq1544 hi) (by rw [List.drop_length];rfl) (fun rec i _ hi hpre => ?_) (fun rec _ => ?_)
 ·simpa using this
 ·obtain ⟨x,hx⟩ : ∃ e,ls[i]? = some e:=⟨_,zc0 hi⟩
  have hm:=zc5 hx
  have hsub : subL ls 0 ((i : Int) + 1) = ls.take (i + 1):=by
   have : ((i : Int) + 1).toNat = i + 1:=by omega
   simp [subL,this]
  have htw : zq970 (ls.take (i + 1)) = some (zq1699 [] (ls.take (i + 1)),()):=by
   unfold zq970
   rw [zq1398]
   simp only [zc4,List.all_eq_true]
   refine ⟨Nat.ble_eq_true_of_le (by simp;omega),fun x hx => ?_⟩
   have:=(zq413.1 (by
    have:=(zq481 (hc x (List.mem_of_mem_take hx))).2.1
    unfold whoOk at this
    rw [zc4] at this
    exact this.2)).2
   unfold lenS at this
   exact Nat.ble_eq_true_of_le (by omega)
  have hI : zq1699 [] (ls.take i) = false:=zq1704 i (by omega) fun j y hj hy => zq462 hy (hpre j (Nat.zero_le _) hj)
  have r5 : (decide ((0 : Int) ≤ (i : Int) + 1) && decide ((i : Int) + 1 ≤ lenL ls)) = true:=by
   rw [decide_eq_true (show (0 : Int) ≤ (i : Int) + 1 by omega),decide_eq_true (show (i : Int) + 1 ≤ lenL ls by unfold lenL;omega)]
   rfl
  rw [zq461 hx]
  simp only [zq1554]
  rw [decide_eq_true (show (i : Int) < lenL ls by unfold lenL;omega),zq445,zq1398 (zq699 (by omega) (by unfold lenL;omega)),zq657 hx,zq415,zq1648 hp hlen ks ls now (hl x hm).1,zq415,zq694]
  cases hq : (zq1220 ps x.ad).isNone
  rotate_left
  ·rfl
  simp only [zq443,zc16,if_false]
  rw [zq1398 (zq693 (by omega) (by omega)),zq1398 r5,hsub,htw,zq415,zq1685 hx,zq1700,hI]
  simp only [List.any_nil,Bool.false_or]
  cases hw : (ls.take i).any (whoP x.who)
  rotate_left
  ·rfl
  simp only [zq443,zc16,if_false]
  by_cases hu : x.upto < now
  ·simp only [hu,decide_true,zq445,if_true];rfl
  ·simp only [hu,decide_false,zq443,if_false,ne_eq,not_true]
   rw [show ((i : Int) + 1) = ((i + 1 : Nat) : Int) by omega,zq1398 (zq693 (by omega) (by omega))]
 ·simp only [zq1554]
  rw [decide_eq_false (show ¬ (ls.length : Int) < lenL ls by unfold lenL;omega),zq443]
theorem zq1357 {ps : List Pf} (hp : pfIn ps) (hlen : ps.length ≤ 1048576) (ks : List (List Ad)) {ls : List Ls} (hl : lsIn ls) (hc : ∀ x ∈ ls,chkLs x = 0) (h20 : ls.length ≤ 20) (now : Int) :
  loopN zq78 FUEL (((),(0,()),(0,()),()),(ks,ps,ls,(now,()),())) = some (((stF' ps now [] ls,()),()),(ks,ps,ls,())):=by
 have:=zq1382 (step:=zq78) ls.length (by omega) (cLs ps now ls) (fun i => stF' ps now (ls.take i) (ls.drop i)) (fun e i => (((),(e,()),((i : Int),()),()),(ks,ps,ls,(now,()),())))
  (fun e => (((e,()),()),(ks,ps,ls,()))) (fun i hi => zq1544 hi) (by rw [List.drop_length];rfl) (fun rec e i he => ?_) (fun rec i hi hpre => ?_) (fun rec => ?_)
 ·simpa using this
 ·simp only [zq78,br_ss,zq415]
  rw [decide_eq_false he]
  cases decide ((i : Int) < lenL ls) <;> rfl
 ·obtain ⟨x,hx⟩ : ∃ e,ls[i]? = some e:=⟨_,zc0 hi⟩
  have hm:=zc5 hx
  have r1 : zq697 (i : Int) (lenL ls) = true:=zq699 (by omega) (by unfold lenL;omega)
  have r2 : (decide ((0 : Int) ≤ (i : Int)) && decide ((i : Int) ≤ lenL ls)) = true:=by simp [lenL];omega
  have r3 : i64ok ((i : Int) + 1) = true:=zq693 (by omega) (by omega)
  have hsub : subL ls 0 (i : Int) = ls.take i:=by simp [subL]
  have hwa : zq234 (ls.take i) x.who = some (idxI (zq603 (whoP x.who) (ls.take i)),()):=zq232 (by simp;omega) _
  rw [zq461 hx]
  simp only [zq78,br_ss,zq415]
  rw [decide_eq_true (show (i : Int) < lenL ls by unfold lenL;omega)]
  simp only [decide_true,cond_true,zq445,r1,r2,r3,zq1400,zq657 hx,zq415,zq190 hp hlen ks ls now (hl x hm).1 (zq481 (hc x hm)).1,hsub,hwa,zq441,zq695,zq694,zq604]
  rw [show ((i : Int) + 1) = ((i + 1 : Nat) : Int) by omega]
  cases (zq1220 ps x.ad).isNone
  rotate_left
  ·rfl
  cases (ls.take i).any (whoP x.who)
  rotate_left
  ·rfl
  by_cases hu : x.upto < now
  ·simp only [hu,decide_true,zq445,zq443,if_true];rfl
  ·simp only [hu,decide_false,zq443,if_false];rfl
 ·simp only [zq78,br_ss,zq415]
  rw [decide_eq_false (show ¬ (ls.length : Int) < lenL ls by unfold lenL;omega)]
  rfl
theorem zq1213 {ps : List Pf} (hp : ∀ p ∈ ps,p.In) {ks : List (List Ad)} (h : zq1227 ps ks = 0) : pfIn ps:=fun p hm => by
 obtain ⟨i,hi⟩:=zc30.1 hm
 exact ⟨hp p hm,(zq489 (zq1228 h i p hi)).1⟩
theorem zq1563 {ps : List Pf} (hp : ∀ p ∈ ps,p.In) {ks : List (List Ad)} (hk : kpIn ks) {ls : List Ls} (hl : lsIn ls) (now : Int) : zq1565 (ps,ks) ls now = some (chkS ps ks ls now,()):=by
 unfold zq1565 chkS
 simp only
 by_cases h3 : ps.length > 3
 ·rw [decide_eq_true (show lenL ps > 3 by unfold lenL;omega),zq445,if_pos h3]
 rw [decide_eq_false (show ¬ lenL ps > 3 by unfold lenL;omega),zq443,if_neg h3,zq493 hp hk (by omega) ls now,zq415]
 by_cases h4 : zq1227 ps ks = 0
 rotate_left
 ·rw [if_neg h4,if_pos h4];rfl
 rw [if_pos h4,if_neg (fun h => h h4)]
 have hpf:=zq1213 hp h4
 simp only [sumC]
 rw [zq491 hpf ks (by omega) ls now,zq415]
 cases ha : adjOk ps
 ·rfl
 simp only [if_true,Bool.true_eq_false,if_false]
 rw [zq1660,zq415]
 cases hb : betw now 0 9999
 ·rfl
 simp only [zc10,zq443,Bool.true_eq_false,if_false]
 rw [zq877 hl,zq415]
 by_cases hc : allC ls now = 0
 rotate_left
 ·rw [decide_eq_false hc,if_pos hc];rfl
 rw [decide_eq_true hc,if_neg (fun h => h hc),zc10,zq443]
 obtain ⟨a1,a2,_,_⟩:=zq369 hc
 rw [zq492 hpf (by omega) ks hl a2 a1 now,zq415]
 by_cases hs : stF' ps now [] ls = 0
 ·rw [if_pos hs,hs]
 ·rw [if_neg hs]
theorem zq87 {ps : List Pf} (hp : ∀ p ∈ ps,p.In) {ks : List (List Ad)} (hk : kpIn ks) {ls : List Ls} (hl : lsIn ls) (now : Int) : zq89 (ps,ks) ls now = some (chkS ps ks ls now,()):=by
 unfold zq89 chkS
 simp only
 by_cases h3 : ps.length > 3
 ·rw [decide_eq_true (show lenL ps > 3 by unfold lenL;omega),zq445,if_pos h3]
 rw [decide_eq_false (show ¬ lenL ps > 3 by unfold lenL;omega),zq443,if_neg h3,zq1358 hp hk (by omega) ls now,zq415]
 by_cases h4 : zq1227 ps ks = 0
 rotate_left
 ·rw [if_neg h4,if_pos h4];rfl
 rw [if_pos h4,if_neg (fun h => h h4)]
 have hpf:=zq1213 hp h4
 simp only [sumC]
 rw [zq1355 hpf ks (by omega) ls now,zq415]
 cases ha : adjOk ps
 ·rfl
 simp only [if_true,Bool.true_eq_false,if_false]
 rw [zq238,zq415]
 cases hb : betw now 0 9999
 ·rfl
 simp only [zc10,zq443,Bool.true_eq_false,if_false]
 rw [zq45 hl,zq415]
 by_cases hc : allC ls now = 0
 rotate_left
 ·rw [if_pos hc]
  have : loopN zq78 FUEL (((),(allC ls now,()),(0,()),()),(ks,ps,ls,(now,()),())) = some (((allC ls now,()),()),(ks,ps,ls,())):=zq1014 fun rec => by
   simp only [zq78,br_ss,zq415]
   rw [decide_eq_false hc]
   cases decide ((0 : Int) < lenL ls) <;> rfl
  rw [this];rfl
 rw [if_neg (fun h => h hc),hc]
 obtain ⟨a1,a2,_,_⟩:=zq369 hc
 rw [zq1357 hpf (by omega) ks hl a2 a1 now,zq415]
end Go.Ma
namespace Go.Ma
open Go
theorem zq1229 : ∀ (ps : List Pf) (ks : List (List Ad)),zq1227 ps ks = 0 ↔ ∀ (i : Nat) (p : Pf),ps[i]? = some p → zq487 p (ks.getD i []) = 0:=fun ps ks => by
 refine ⟨zq1228,?_⟩
 induction ps generalizing ks with
 | nil => intro _;rfl
 | cons q r ih =>
  intro h
  have h0:=h 0 q rfl
  have h0' : zq487 q (ks.headD []) = 0:=by cases ks <;> exact h0
  rw [zq1227,if_neg (fun hh => hh h0')]
  refine ih _ fun i p hp => ?_
  have:=h (i + 1) p hp
  cases ks <;> simpa using this
theorem zq1545 (ps : List Pf) (now : Int) : ∀ (m bf : List Ls),stF' ps now bf m = 0 ↔ (∀ x ∈ m,(zq1220 ps x.ad).isSome = true) ∧ (∀ x ∈ m,now ≤ x.upto) ∧ (∀ y ∈ bf,∀ x ∈ m,y.who ≠ x.who) ∧ m.Pairwise fun x y => x.who ≠ y.who
 | [],bf => by simp [stF']
 | x :: r,bf => by
  unfold stF'
  by_cases h1 : (zq1220 ps x.ad).isSome = true
  ·rw [if_neg (by cases hq : zq1220 ps x.ad <;> simp_all)]
   by_cases h2 : bf.any (whoP x.who) = true
   ·rw [if_pos h2]
    constructor
    ·intro h;exact absurd h (by decide)
    ·rintro ⟨_,_,h3,_⟩
     obtain ⟨y,hy,hq⟩:=List.any_eq_true.1 h2
     exact absurd (by simpa [whoP] using hq) (h3 y hy x (by simp))
   ·rw [if_neg h2]
    have h2' : ∀ y ∈ bf,y.who ≠ x.who:=fun y hy he => h2 (List.any_eq_true.2 ⟨y,hy,by simp [whoP,he]⟩)
    by_cases hu : x.upto < now
    ·rw [if_pos hu]
     constructor
     ·intro h;exact absurd h (by decide)
     ·rintro ⟨_,h3,_⟩
      have:=h3 x (by simp)
      omega
    rw [if_neg hu,zq1545 ps now r (bf ++ [x])]
    constructor
    ·rintro ⟨a1,a0,a2,a3⟩
     refine ⟨fun z hz => ?_,fun z hz => ?_,fun y hy z hz => ?_,zc44.2 ⟨fun z hz => a2 x (by simp) z hz,a3⟩⟩
     ·rcases zc28.1 hz with rfl | hz
      ·exact h1
      ·exact a1 z hz
     ·rcases zc28.1 hz with rfl | hz
      ·omega
      ·exact a0 z hz
     ·rcases zc28.1 hz with rfl | hz
      ·exact h2' y hy
      ·exact a2 y (by simp [hy]) z hz
    ·rintro ⟨a1,a0,a2,a3⟩
     obtain ⟨b1,b2⟩:=zc44.1 a3
     refine ⟨fun z hz => a1 z (by simp [hz]),fun z hz => a0 z (by simp [hz]),fun y hy z hz => ?_,b2⟩
     rcases zc36.1 hy with hy | hy
     ·exact a2 y hy z (by simp [hz])
     ·have : y = x:=by simpa using hy
      subst this
      exact b1 z hz
  ·rw [if_pos (by simpa using h1)]
   constructor
   ·intro h;exact absurd h (by decide)
   ·rintro ⟨a1,_⟩;exact absurd (a1 x (by simp)) h1
theorem zq1221 {ps : List Pf} {a : Ad} : (zq1220 ps a).isSome = true ↔ ∃ p ∈ ps,holds p a = true:=by
 unfold zq1220
 rw [zq604,List.any_eq_true]
structure StOk (ps : List Pf) (ks : List (List Ad)) (ls : List Ls) (now : Int) : Prop where
 pin : pfIn ps
 kin : kpIn ks
 lin : lsIn ls
 klen : ks.length = ps.length
 plen : ps.length ≤ 3
 pool : ∀ (i : Nat) (p : Pf),ps[i]? = some p → zq487 p (ks.getD i []) = 0
 pair : ps.Pairwise zq391
 time : betw now 0 9999 = true
 all : allC ls now = 0
 has : ∀ x ∈ ls,∃ p ∈ ps,holds p x.ad = true
 upto : ∀ x ∈ ls,now ≤ x.upto
 who : ls.Pairwise fun x y => x.who ≠ y.who
theorem zq1546 {ps : List Pf} (hp : ∀ p ∈ ps,p.In) {ks : List (List Ad)} (hk : kpIn ks) {ls : List Ls} (hl : lsIn ls) (hlen : ks.length = ps.length) {now : Int} (h : chkS ps ks ls now = 0) : StOk ps ks ls now:=by
 unfold chkS at h
 split at h
 ·cases h
 rename_i h3
 split at h
 ·rename_i h4;exact absurd h h4
 rename_i h4
 have h4:=zc48.1 h4
 split at h
 ·cases h
 rename_i ha
 split at h
 ·cases h
 rename_i hb
 split at h
 ·rename_i hc;exact absurd h hc
 rename_i hc
 have hpf:=zq1213 hp h4
 obtain ⟨s1,s2,_,s3⟩:=(zq1545 ps now ls []).1 h
 exact ⟨hpf,hk,hl,hlen,by omega,(zq1229 ps ks).1 h4,(zq353 hpf).1 (by simpa using ha),by simpa using hb,zc48.1 hc,fun x hx => zq1221.1 (s1 x hx),s2,s3⟩
abbrev StV:=(List Pf × List (List Ad)) × List Ls × Int × Unit
abbrev DoV:=StV × Ad × Int × Unit
def noSt : StV:=((([] : List Pf),([] : List (List Ad))),([] : List Ls),0,())
def noAd : Ad:=⟨false,0,0⟩
def errS (e : Int) : DoV:=(noSt,noAd,e,())
def okS (ps : List Pf) (ks : List (List Ad)) (ls : List Ls) (now : Int) (a : Ad) : DoV:=(((ps,ks),ls,now,()),a,0,())
def posP (p : Pf) (ps : List Pf) : Nat:=(ps.takeWhile fun y => decide (ordP y p < 0)).length
def posA (a : Ad) (kp : List Ad) : Nat:=(kp.takeWhile fun y => decide (ordA y a < 0)).length
def putAt {α : Type} (l : List α) (n : Nat) (x : α) : List α:=l.take n ++ x :: l.drop n
def zq562 (ps : List Pf) (ks : List (List Ad)) (ls : List Ls) (now : Int) (p : Pf) : DoV :=
 if ps.any (fun q => meets q p) = true then errS 6 else if ps.length = 3 then errS 2 else okS (putAt ps (posP p ps) p) (putAt ks (posP p ps) []) ls now noAd
def zq558 (ps : List Pf) (ks : List (List Ad)) (ls : List Ls) (now : Int) (a : Ad) : DoV :=
 match zq1220 ps a with
 | none => errS 5
 | some i => if (ks.getD i []).any (fun x => decide (a = x)) = true then errS 6 else if (ks.getD i []).length = 6 then errS 2 else okS ps (ks.set i (putAt (ks.getD i []) (posA a (ks.getD i [])) a)) ls now noAd
def ownL (p : Pf) (ls : List Ls) : List Ls:=ls.filter fun x => holds p x.ad
def othL (p : Pf) (ls : List Ls) : List Ls:=ls.filter fun x => !holds p x.ad
def awayB (p : Pf) (ls : List Ls) (who : ByteArray) : Bool:=match zq603 (whoP who) ls with | some i => (match ls[i]? with | some x => !holds p x.ad | none => false) | none => false
def zq676 (p : Pf) (kp : List Ad) (ls : List Ls) (who : ByteArray) (now ttl : Int) : List Ls × Ad × Bool × Unit:=rawOf p kp (live (ownL p ls) now) who (now + ttl)
def zq557 (ps : List Pf) (ks : List (List Ad)) (ls : List Ls) (now : Int) (who : ByteArray) (k : Int) (ttl : Int) : DoV :=
 match ps[k.toNat]? with
 | none => errS 5
 | some p => if awayB p ls who = true then errS 6 else if (zq676 p (ks.getD k.toNat []) ls who now ttl).2.2.1 = false then errS 8
  else if (zq676 p (ks.getD k.toNat []) ls who now ttl).1.length + (othL p ls).length > 20 then errS 2
  else okS ps ks (sortL ((zq676 p (ks.getD k.toNat []) ls who now ttl).1 ++ othL p ls)) now (zq676 p (ks.getD k.toNat []) ls who now ttl).2.1
def zq556 (ps : List Pf) (ks : List (List Ad)) (ls : List Ls) (now : Int) (who : ByteArray) : DoV :=
 match zq603 (whoP who) ls with
 | none => errS 5
 | some i => (match ls[i]? with | some x => okS ps ks (ls.take i ++ ls.drop (i + 1)) now x.ad | none => errS 5)
def zq563 (ps : List Pf) (ks : List (List Ad)) (ls : List Ls) (now n : Int) : DoV:=if n < now then errS 4 else okS ps ks (live ls n) n noAd
def doOf (ps : List Pf) (ks : List (List Ad)) (ls : List Ls) (now : Int) (o : Oq) : DoV :=
 if formO o ≠ 0 then errS (formO o)
 else if o.kind = 1 then zq562 ps ks ls now o.pf
 else if o.kind = 2 then zq558 ps ks ls now o.ad
 else if o.kind = 3 then zq557 ps ks ls now o.who o.of_ o.n
 else if o.kind = 4 then zq556 ps ks ls now o.who
 else zq563 ps ks ls now o.n
def stDo (ps : List Pf) (ks : List (List Ad)) (ls : List Ls) (now : Int) (o : Oq) : DoV:=if chkS ps ks ls now ≠ 0 then errS (chkS ps ks ls now) else doOf ps ks ls now o
theorem zq643 {o : Oq} (h : formO o = 0) (hk : o.kind = 1) : chkP o.pf = 0 ∧ ((wid o.pf.ad.v6 : Nat) : Int) - o.pf.bits ≤ 4:=by
 unfold formO at h
 split at h
 ·cases h
 split at h
 ·cases h
 split at h
 ·rename_i h1;exact absurd h h1
 rename_i h1
 split at h
 ·rename_i h2;exact ⟨zc48.1 h1,h2⟩
 ·cases h
theorem zq641 {o : Oq} (h : formO o = 0) (hk : o.kind = 2) : chkA o.ad = 0:=by
 unfold formO at h
 split at h
 ·cases h
 split at h
 ·cases h
 rwa [if_neg (by omega)] at h
theorem zq642 {o : Oq} (h : formO o = 0) : 1 ≤ o.kind ∧ o.kind ≤ 5:=by
 unfold formO at h
 split at h
 ·cases h
 rename_i hk
 exact zq413.1 (by simpa using hk)
theorem zq645 {o : Oq} (h : formO o = 0) (hk : o.kind = 3 ∨ o.kind = 4) : whoOk o.who = true:=by
 unfold formO at h
 split at h
 ·cases h
 split at h
 ·cases h
 rw [if_neg (by omega),if_neg (by omega)] at h
 split at h
 ·cases h
 rename_i h1
 have : o.kind < 5:=by omega
 cases hw : whoOk o.who
 ·exact absurd ⟨this,hw⟩ h1
 ·rfl
theorem zq640 {o : Oq} (h : formO o = 0) (hk : o.kind = 3) : betw o.of_ 0 2 = true ∧ betw o.n 1 500 = true:=by
 unfold formO at h
 split at h
 ·cases h
 split at h
 ·cases h
 rw [if_neg (by omega),if_neg (by omega)] at h
 split at h
 ·cases h
 split at h
 ·cases h
 rename_i h2
 cases h1 : betw o.of_ 0 2
 ·exact absurd ⟨hk,.inl h1⟩ h2
 ·cases h3 : betw o.n 1 500
  ·exact absurd ⟨hk,.inr h3⟩ h2
  ·exact ⟨rfl,rfl⟩
theorem zq644 {o : Oq} (h : formO o = 0) (hk : o.kind = 5) : betw o.n 0 9999 = true:=by
 unfold formO at h
 split at h
 ·cases h
 split at h
 ·cases h
 rw [if_neg (by omega),if_neg (by omega)] at h
 split at h
 ·cases h
 split at h
 ·cases h
 split at h
 ·cases h
 rename_i h2
 cases h1 : betw o.n 0 9999
 ·exact absurd ⟨hk,h1⟩ h2
 ·rfl
theorem zq1696 {α : Type} {q : α → Bool} : ∀ {l : List α},(l.Pairwise fun x y => q y = true → q x = true) → ∀ {i : Nat} {x : α},l[i]? = some x → (q x = true ↔ i < (l.takeWhile q).length)
 | [],_,i,x,h => by simp at h
 | y :: r,hp,i,x,h => by
  obtain ⟨h1,h2⟩:=zc44.1 hp
  rw [List.takeWhile_cons]
  cases hq : q y
  ·simp only [zc16,if_false,zc32,Nat.not_lt_zero,iff_false,Bool.not_eq_true]
   match i with
   | 0 =>
    simp only [zc13,zc2] at h
    rw [← h];exact hq
   | i + 1 =>
    rw [zc35] at h
    cases hx : q x
    ·rfl
    ·rw [h1 x (zc5 h) hx] at hq;cases hq
  ·simp only [if_true,zc21]
   match i with
   | 0 =>
    simp only [zc13,zc2] at h
    rw [← h,hq];simp
   | i + 1 =>
    rw [zc35] at h
    rw [zq1696 h2 h];omega
theorem tw_le {α : Type} (q : α → Bool) (l : List α) : (l.takeWhile q).length ≤ l.length:=(List.takeWhile_sublist q).length_le
theorem zq1236 {ps : List Pf} (h : ps.Pairwise zq391) (p : Pf) {i : Nat} {x : Pf} (hx : ps[i]? = some x) : ordP x p < 0 ↔ i < posP p ps:=by
 have:=zq1696 (q:=fun y => decide (ordP y p < 0)) (l:=ps) (h.imp fun {a b} hab hb => by
  simp only [decide_eq_true_eq] at hb ⊢
  exact zq1178 hab.1 hb) hx
 simpa [posP] using this
theorem zq1237 (p : Pf) (ps : List Pf) : posP p ps ≤ ps.length:=tw_le _ _
theorem zq1172 {a b c : Ad} (h1 : ordA a b < 0) (h2 : ordA b c < 0) : ordA a c < 0:=by
 have:=(zq1171 a b).1.1 h1
 have:=(zq1171 b c).1.1 h2
 exact (zq1171 a c).1.2 (by omega)
theorem zq1232 {kp : List Ad} (h : kp.Pairwise fun a b => ordA a b < 0) (p : Ad) {i : Nat} {x : Ad} (hx : kp[i]? = some x) : ordA x p < 0 ↔ i < posA p kp:=by
 have:=zq1696 (q:=fun y => decide (ordA y p < 0)) (l:=kp) (h.imp fun {a b} hab hb => by
  simp only [decide_eq_true_eq] at hb ⊢
  exact zq1172 hab hb) hx
 simpa [posA] using this
theorem zq1233 (p : Ad) (kp : List Ad) : posA p kp ≤ kp.length:=tw_le _ _
theorem zq761 {p : Pf} : ∀ (kp : List Ad) (o : Option Ad),keptF p o kp = 0 ↔ (∀ a ∈ kp,chkA a = 0 ∧ holds p a = true) ∧ (kp.Pairwise fun a b => ordA a b < 0) ∧ ∀ b,o = some b → ∀ a ∈ kp,ordA b a < 0
 | [],o => by simp [keptF]
 | x :: r,o => by
  rw [keptF]
  by_cases h1 : chkA x = 0
  rotate_left
  ·rw [if_pos h1]
   exact ⟨fun h => absurd h h1,fun h => absurd (h.1 x (by simp)).1 h1⟩
  rw [if_neg (fun h => h h1)]
  cases h2 : holds p x
  ·rw [if_pos rfl]
   refine ⟨fun h => (by cases h),fun h => ?_⟩
   rw [(h.1 x (by simp)).2] at h2;cases h2
  rw [if_neg (by simp)]
  by_cases h3 : backB o x = true
  ·rw [if_pos h3]
   refine ⟨fun h => (by cases h),fun h => ?_⟩
   cases o with
   | none => cases h3
   | some b =>
    have:=h.2.2 b rfl x (by simp)
    simp only [backB,decide_eq_true_eq] at h3
    omega
  ·rw [if_neg h3,zq761 r (some x)]
   have h4 : ∀ b,o = some b → ordA b x < 0:=fun b hb => by
    subst hb
    simp only [backB,decide_eq_true_eq] at h3
    omega
   constructor
   ·rintro ⟨g1,g2,g3⟩
    refine ⟨fun a ha => ?_,zc44.2 ⟨fun a ha => g3 x rfl a ha,g2⟩,fun b hb a ha => ?_⟩
    ·rcases zc28.1 ha with rfl | ha
     ·exact ⟨h1,h2⟩
     ·exact g1 a ha
    ·rcases zc28.1 ha with rfl | ha
     ·exact h4 b hb
     ·exact zq1172 (h4 b hb) (g3 x rfl a ha)
   ·rintro ⟨g1,g2,g3⟩
    obtain ⟨k1,k2⟩:=zc44.1 g2
    exact ⟨fun a ha => g1 a (List.mem_cons_of_mem _ ha),k2,fun b hb a ha => by injection hb with hb;subst hb;exact k1 a ha⟩
theorem zq488 {p : Pf} {kp : List Ad} : zq487 p kp = 0 ↔ chkP p = 0 ∧ ((wid p.ad.v6 : Nat) : Int) - p.bits ≤ 4 ∧ kp.length ≤ 6 ∧ (∀ a ∈ kp,chkA a = 0 ∧ holds p a = true) ∧ kp.Pairwise fun a b => ordA a b < 0:=by
 unfold zq487
 by_cases h1 : chkP p = 0
 rotate_left
 ·rw [if_pos h1]
  exact ⟨fun h => absurd h h1,fun h => absurd h.1 h1⟩
 rw [if_neg (fun h => h h1)]
 by_cases h2 : ((wid p.ad.v6 : Nat) : Int) - p.bits ≤ 4 ∧ kp.length ≤ 6
 ·rw [if_neg (by omega),zq761]
  constructor
  ·rintro ⟨g1,g2,_⟩;exact ⟨h1,h2.1,h2.2,g1,g2⟩
  ·rintro ⟨_,_,_,g1,g2⟩;exact ⟨g1,g2,fun b hb => by cases hb⟩
 ·rw [if_pos (by omega)]
  exact ⟨fun h => (by cases h),fun h => absurd ⟨h.2.1,h.2.2.1⟩ h2⟩
end Go.Ma
namespace Go.Ma
open Go
theorem zq500 {l : List Ad} (h : l.length ≤ 1048576) : zq1487 l = some (l,()):=by
 unfold zq1487
 rw [zq1398 (zq1424 (by simp [lenL]) (zq993 l) (by unfold lenL;simp;omega)),zc41]
 cases l with
 | nil => exact zq441 _
 | cons a r => rfl
theorem StOk.kept {ps : List Pf} {ks : List (List Ad)} {ls : List Ls} {now : Int} (h : StOk ps ks ls now) {i : Nat} {p : Pf} (hp : ps[i]? = some p) : (ks.getD i []).length ≤ 6:=(zq488.1 (h.pool i p hp)).2.2.1
theorem StOk.llen {ps : List Pf} {ks : List (List Ad)} {ls : List Ls} {now : Int} (h : StOk ps ks ls now) : ls.length ≤ 20:=(zq369 h.all).1
theorem StOk.lchk {ps : List Pf} {ks : List (List Ad)} {ls : List Ls} {now : Int} (h : StOk ps ks ls now) : ∀ x ∈ ls,chkLs x = 0:=(zq369 h.all).2.1
theorem zq1584 {ps : List Pf} {ks : List (List Ad)} {ls : List Ls} {now : Int} (h : StOk ps ks ls now) : zq1586 (ps,ks) ls now = some (((ps,ks),ls,now,()),()):=by
 have hpl:=h.plen
 have hkl:=h.klen
 have hll:=h.llen
 unfold zq1586
 rw [zq501 (by omega),zq415,zq570]
 simp only
 have:=zq1015 (step:=zq1578) (fun i => (((),(),(),(lenL ps,()),((i : Int),()),()),(ks,ps,ls,((0 : Int),()),(now,()),([] : List Pf),([] : List Ls),ps.take i,ls,([] : List (List Ad)),ks.take i,()))) ps.length
  (fun _ => some (((),(),()),(ks,ps,ls,((0 : Int),()),(now,()),([] : List Pf),([] : List Ls),ps,ls,([] : List (List Ad)),ks,()))) (fun rec i hi hr => ?_) (fun rec => ?_) FUEL 0 (Nat.zero_le _) (zq651 (by omega))
 ·rw [show ((0 : Nat) : Int) = 0 from rfl,List.take_zero,List.take_zero] at this
  rw [this,zq415]
 ·obtain ⟨p,hp⟩ : ∃ e,ps[i]? = some e:=⟨_,zc0 hi⟩
  have hk6:=h.kept hp
  have e1 : ps.take (i + 1) = ps.take i ++ [p]:=by rw [zc26 hi,(zc1.1 hp).2]
  have hik : i < ks.length:=by omega
  have e2 : ks.take (i + 1) = ks.take i ++ [ks.getD i []]:=by
   rw [zc26 hik,zc3,zc0 hik]
   rfl
  have e3 : padL (ps.take i).length (ks.take i) = ks.take i:=zq1207 (by simp;omega)
  simp only [zq1578]
  rw [decide_eq_true (show (i : Int) < lenL ps by unfold lenL;omega),zq445,zq1398 (zq699 (by omega) (by unfold lenL;omega)),zq657 hp,zq415,zq655,zq500 (by omega)]
  simp only [zq415,zq570,zq441,e3]
  rw [zq1398 (zq1424 (zq993 _) (zq993 _) (by unfold lenL;simp;omega)),show ((i : Int) + 1) = ((i + 1 : Nat) : Int) by omega,zq1398 (zq693 (by omega) (by omega)),← e1,← e2,hr]
 ·simp only [zq1578]
  rw [decide_eq_false (show ¬ (ps.length : Int) < lenL ps by unfold lenL;omega),zq443,List.take_length,← hkl,List.take_length]
theorem zq1639 (ps : List Pf) (ks : List (List Ad)) {ls : List Ls} (hlen : ls.length ≤ 1048576) (now : Int) (who : ByteArray) : zq299 (ps,ks) ls now who = some (idxI (zq603 (whoP who) ls),()):=by
 unfold zq299
 have:=zq696 (step:=zq293) ls (whoP who) (fun i => (((),(),(lenL ls,()),((i : Int),()),()),((now,()),ks,ps,ls,(who,()),())))
  (fun o => match o with | some i => Sum.inl ((((i : Int),()),()),((now,()),ks,ps,ls,(who,()),())) | none => Sum.inr ((),((now,()),ks,ps,ls,(who,()),()))) (by omega) (fun rec i x hx hi => ?_) (fun rec => ?_)
 ·rw [show ((0 : Nat) : Int) = 0 from rfl] at this
  simp only
  rw [this,zq415]
  cases zq603 (whoP who) ls <;> rfl
 ·simp only [zq293]
  rw [decide_eq_true (show (i : Int) < lenL ls by unfold lenL;omega),zq445,zq1398 (zq699 (by omega) (by unfold lenL;omega)),zq657 hx,zq415,zq288,zq415,zq1673]
  unfold whoP
  by_cases hc : x.who = who
  ·rw [decide_eq_true hc,zq445,if_pos rfl]
  ·rw [decide_eq_false hc,zq443,if_neg (by simp),show ((i : Int) + 1) = ((i + 1 : Nat) : Int) by omega,zq1398 (zq693 (by omega) (by omega))]
 ·simp only [zq293]
  rw [decide_eq_false (show ¬ (ls.length : Int) < lenL ls by unfold lenL;omega),zq443]
abbrev DPl:=List (List Ad) × List Pf × List Ls × (Int × Unit) × (Oq × Unit) × (Int × Unit) × List (List Ad) × List Pf × List Ls × (Ad × Unit) × List (List Ad) × List Pf × List Ls × (Int × Unit) × (Oq × Unit) × (Ad × Unit) × (Pf × Unit) × Unit
abbrev DPl2:=List (List Ad) × List Pf × List Ls × (Int × Unit) × (Oq × Unit) × (Int × Unit) × List (List Ad) × List Pf × List Ls × (Ad × Unit) × List (List Ad) × List Pf × List Ls × (Int × Unit) × (Oq × Unit) × (Ad × Unit) × (Pf × Unit) × (Pf × Unit) × Unit
theorem zq1224 {ps : List Pf} (hp : pfIn ps) (hlen : ps.length ≤ 1048576) (ks : List (List Ad)) (ls : List Ls) (now : Int) (o : Oq) (h1 : o.pf.In) (h2 : chkP o.pf = 0) :
  loopN zq1618 FUEL (((),(),(lenL ps,()),(0,()),()),((ks,ps,ls,(now,()),(o,()),((0 : Int),()),([] : List (List Ad)),([] : List Pf),([] : List Ls),((⟨false,0,0⟩ : Ad),()),ks,ps,ls,(now,()),(o,()),((⟨false,0,0⟩ : Ad),()),(o.pf,()),()) : DPl)) =
   some (match zq603 (fun q => meets q o.pf) ps with
    | some i => Sum.inl ((((i : Int),()),()),((ks,ps,ls,(now,()),(o,()),((0 : Int),()),([] : List (List Ad)),([] : List Pf),([] : List Ls),((⟨false,0,0⟩ : Ad),()),ks,ps,ls,(now,()),(o,()),((⟨false,0,0⟩ : Ad),()),(o.pf,()),()) : DPl))
    | none => Sum.inr ((),((ks,ps,ls,(now,()),(o,()),((0 : Int),()),([] : List (List Ad)),([] : List Pf),([] : List Ls),((⟨false,0,0⟩ : Ad),()),ks,ps,ls,(now,()),(o,()),((⟨false,0,0⟩ : Ad),()),(o.pf,()),()) : DPl))):=by
 have:=zq696 (step:=zq1618) ps (fun q => meets q o.pf) (fun i => (((),(),(lenL ps,()),((i : Int),()),()),((ks,ps,ls,(now,()),(o,()),((0 : Int),()),([] : List (List Ad)),([] : List Pf),([] : List Ls),((⟨false,0,0⟩ : Ad),()),ks,ps,ls,(now,()),(o,()),((⟨false,0,0⟩ : Ad),()),(o.pf,()),()) : DPl)))
  (fun r => match r with | some i => Sum.inl ((((i : Int),()),()),((ks,ps,ls,(now,()),(o,()),((0 : Int),()),([] : List (List Ad)),([] : List Pf),([] : List Ls),((⟨false,0,0⟩ : Ad),()),ks,ps,ls,(now,()),(o,()),((⟨false,0,0⟩ : Ad),()),(o.pf,()),()) : DPl)) | none => Sum.inr ((),((ks,ps,ls,(now,()),(o,()),((0 : Int),()),([] : List (List Ad)),([] : List Pf),([] : List Ls),((⟨false,0,0⟩ : Ad),()),ks,ps,ls,(now,()),(o,()),((⟨false,0,0⟩ : Ad),()),(o.pf,()),()) : DPl))) (by omega) (fun rec i x hx hi => ?_) (fun rec => ?_)
 ·exact this
 ·obtain ⟨g1,g2⟩:=hp x (zc5 hx)
  simp only [zq1618]
  rw [decide_eq_true (show (i : Int) < lenL ps by unfold lenL;omega),zq445,zq1398 (zq699 (by omega) (by unfold lenL;omega)),zq657 hx,zq415,zq304,zq1272 g1 h1 g2 h2,zq415,zq415]
  simp only [show (over x o.pf || over o.pf x) = meets x o.pf from rfl]
  cases meets x o.pf
  ·rw [show ((i : Int) + 1) = ((i + 1 : Nat) : Int) by omega,zq443,zq1398 (zq693 (by omega) (by omega)),if_neg (by simp)]
  ·rw [zq445,if_pos rfl]
 ·simp only [zq1618]
  rw [decide_eq_false (show ¬ (ps.length : Int) < lenL ps by unfold lenL;omega),zq443]
theorem zq1225 {ps : List Pf} (hp : pfIn ps) (hpw : ps.Pairwise zq391) (hlen : ps.length ≤ 1048576) (ks : List (List Ad)) (ls : List Ls) (now : Int) (o : Oq) (h2 : chkP o.pf = 0) :
  loopN zq1608 FUEL (((),(),(),(lenL ps,()),(0,()),(lenL ps,()),()),((ks,ps,ls,(now,()),(o,()),((0 : Int),()),([] : List (List Ad)),([] : List Pf),([] : List Ls),((⟨false,0,0⟩ : Ad),()),ks,ps,ls,(now,()),(o,()),((⟨false,0,0⟩ : Ad),()),(o.pf,()),(o.pf,()),()) : DPl2)) =
   some (((),(),(),(lenL ps,()),(((posP o.pf ps : Nat) : Int),()),()),((ks,ps,ls,(now,()),(o,()),((0 : Int),()),([] : List (List Ad)),([] : List Pf),([] : List Ls),((⟨false,0,0⟩ : Ad),()),ks,ps,ls,(now,()),(o,()),((⟨false,0,0⟩ : Ad),()),(o.pf,()),(o.pf,()),()) : DPl2)):=by
 refine zq414 (step:=zq1608) ps.length (posP o.pf ps) (zq1237 _ _) (by omega)
  (fun i j => (((),(),(),(lenL ps,()),((i : Int),()),((j : Int),()),()),((ks,ps,ls,(now,()),(o,()),((0 : Int),()),([] : List (List Ad)),([] : List Pf),([] : List Ls),((⟨false,0,0⟩ : Ad),()),ks,ps,ls,(now,()),(o,()),((⟨false,0,0⟩ : Ad),()),(o.pf,()),(o.pf,()),()) : DPl2))) _ (fun rec i j hij h3 h4 h5 => ?_) (fun rec => ?_)
 ·obtain ⟨e,he⟩ : ∃ e,ps[(i + j) / 2]? = some e:=⟨_,zc0 (by omega)⟩
  obtain ⟨g1,g2⟩:=hp e (zc5 he)
  have hpos:=zq1236 hpw o.pf he
  simp only [zq1608]
  rw [decide_eq_true (show (i : Int) < (j : Int) by omega),zq445,zq1398 (zq693 (by omega) (by omega))]
  simp only [zq682 i j (by omega)]
  rw [zq1398 (zq699 (by omega) (by unfold lenL;omega)),zq657 he,zq415,zq309,zq1278 g2 h2,zq415,zq415]
  by_cases ho : ordP e o.pf < 0
  ·rw [decide_eq_true ho,zq445,if_pos (hpos.1 ho),show (((i + j) / 2 : Nat) : Int) + 1 = (((i + j) / 2 + 1 : Nat) : Int) by omega,zq1398 (zq693 (by omega) (by omega))]
  ·rw [decide_eq_false ho,zq443,if_neg (fun h => ho (hpos.2 h))]
 ·simp only [zq1608]
  rw [decide_eq_false (show ¬ ((posP o.pf ps : Nat) : Int) < ((posP o.pf ps : Nat) : Int) by omega),zq443]
theorem zq389 {α : Type} {q : α → Bool} {l : List α} : l.any q = (zq603 q l).isSome:=(zq604 l).symm
theorem zq1353 {ps : List Pf} {ks : List (List Ad)} {ls : List Ls} {now : Int} (h : StOk ps ks ls now) {o : Oq} (ho : o.In) (hf : formO o = 0) (hk : o.kind = 1) : zq1632 (ps,ks) ls now o = some (zq562 ps ks ls now o.pf):=by
 obtain ⟨c1,c2⟩:=zq643 hf hk
 have hpl:=h.plen
 have hkl:=h.klen
 have hpo:=zq1237 o.pf ps
 unfold zq1632 zq562
 rw [zq1575 ho,zq415,hf,decide_eq_true rfl,zc10,zq443,zq1584 h,zq415,decide_eq_true hk,zq445]
 simp only
 rw [zq1224 h.pin (by omega) ks ls now o ho.2.1 c1,zq415,zq389]
 cases hm : zq603 (fun q => meets q o.pf) ps with
 | some i =>
  simp only [sumC,Option.isSome,if_true]
  rw [decide_eq_true (show (i : Int) ≥ 0 by omega),zq445]
  rfl
 | none =>
  simp only [sumC,Option.isSome,zc16,if_false]
  by_cases h3 : ps.length = 3
  ·rw [decide_eq_true (show lenL ps = 3 by unfold lenL;omega),zq445,if_pos h3];rfl
  ·rw [decide_eq_false (show ¬ lenL ps = 3 by unfold lenL;omega),zq443,if_neg h3,zq1225 h.pin h.pair (by omega) ks ls now o c1,zq415]
   simp only
   have r1 : (decide ((0 : Int) ≤ ((posP o.pf ps : Nat) : Int)) && decide (((posP o.pf ps : Nat) : Int) ≤ lenL ps) && room (lenL ps) 1) = true:=by
    rw [decide_eq_true (show (0 : Int) ≤ ((posP o.pf ps : Nat) : Int) by omega),decide_eq_true (show ((posP o.pf ps : Nat) : Int) ≤ lenL ps by unfold lenL;omega),zq1424 (zq993 _) (by omega) (by unfold lenL;omega)]
    rfl
   have r2 : ∃ b,(br (decide (((posP o.pf ps : Nat) : Int) < lenL ps)) (req (zq697 ((posP o.pf ps : Nat) : Int) (lenL ps)) ((geti ps ((posP o.pf ps : Nat) : Int)).bind fun p9 => (zq309 p9 (getL ks ((posP o.pf ps : Nat) : Int)) o.pf).bind fun y10 => some (((posP o.pf ps : Nat) : Int),decide (y10.1 = 0),()))) (some (((posP o.pf ps : Nat) : Int),false,()))) = some (((posP o.pf ps : Nat) : Int),b,()):=by
    by_cases hlt : posP o.pf ps < ps.length
    ·obtain ⟨e,he⟩ : ∃ e,ps[posP o.pf ps]? = some e:=⟨_,zc0 hlt⟩
     obtain ⟨g1,g2⟩:=h.pin e (zc5 he)
     exact ⟨_,by rw [decide_eq_true (show ((posP o.pf ps : Nat) : Int) < lenL ps by unfold lenL;omega),zq445,zq1398 (zq699 (by omega) (by unfold lenL;omega)),zq657 he,zq415,zq309,zq1278 g2 c1,zq415,zq415]⟩
    ·exact ⟨_,by rw [decide_eq_false (show ¬ ((posP o.pf ps : Nat) : Int) < lenL ps by unfold lenL;omega),zq443]⟩
   obtain ⟨b,hb⟩:=r2
   rw [hb,zq415]
   simp only [r1,zq1400,zq570,zq441,zq1207 hkl]
   simp [okS,noAd,insL,putAt]
abbrev DKp:=List (List Ad) × List Pf × List Ls × (Int × Unit) × (Oq × Unit) × (Int × Unit) × List (List Ad) × List Pf × List Ls × (Ad × Unit) × List (List Ad) × List Pf × List Ls × (Int × Unit) × (Oq × Unit) × (Ad × Unit) × (Ad × Unit) × (Ad × Unit) × Unit
theorem zq756 {kp : List Ad} (hpw : kp.Pairwise fun a b => ordA a b < 0) (hlen : kp.length ≤ 1048576) (ps : List Pf) (ks : List (List Ad)) (ls : List Ls) (now : Int) (o : Oq) {i : Nat} (hkp : ks.getD i [] = kp) :
  loopN zq1599 FUEL ((((i : Int),()),(),(),(lenL kp,()),(0,()),(lenL kp,()),()),((ks,ps,ls,(now,()),(o,()),((0 : Int),()),([] : List (List Ad)),([] : List Pf),([] : List Ls),((⟨false,0,0⟩ : Ad),()),ks,ps,ls,(now,()),(o,()),((⟨false,0,0⟩ : Ad),()),(o.ad,()),(o.ad,()),()) : DKp)) =
   some ((((i : Int),()),(),(),(lenL kp,()),(((posA o.ad kp : Nat) : Int),()),()),((ks,ps,ls,(now,()),(o,()),((0 : Int),()),([] : List (List Ad)),([] : List Pf),([] : List Ls),((⟨false,0,0⟩ : Ad),()),ks,ps,ls,(now,()),(o,()),((⟨false,0,0⟩ : Ad),()),(o.ad,()),(o.ad,()),()) : DKp)):=by
 refine zq414 (step:=zq1599) kp.length (posA o.ad kp) (zq1233 _ _) (by omega)
  (fun a b => ((((i : Int),()),(),(),(lenL kp,()),((a : Int),()),((b : Int),()),()),((ks,ps,ls,(now,()),(o,()),((0 : Int),()),([] : List (List Ad)),([] : List Pf),([] : List Ls),((⟨false,0,0⟩ : Ad),()),ks,ps,ls,(now,()),(o,()),((⟨false,0,0⟩ : Ad),()),(o.ad,()),(o.ad,()),()) : DKp))) _ (fun rec a b hij h3 h4 h5 => ?_) (fun rec => ?_)
 ·obtain ⟨e,he⟩ : ∃ e,kp[(a + b) / 2]? = some e:=⟨_,zc0 (by omega)⟩
  have hpos:=zq1232 hpw o.ad he
  simp only [zq1599]
  rw [decide_eq_true (show (a : Int) < (b : Int) by omega),zq445,zq1398 (zq693 (by omega) (by omega))]
  simp only [zq682 a b (by omega),zq655,hkp]
  rw [zq1398 (zq699 (by omega) (by unfold lenL;omega)),zq657 he,zq415,zq347,zq415]
  by_cases ho : ordA e o.ad < 0
  ·rw [decide_eq_true ho,zq445,if_pos (hpos.1 ho),show (((a + b) / 2 : Nat) : Int) + 1 = (((a + b) / 2 + 1 : Nat) : Int) by omega,zq1398 (zq693 (by omega) (by omega))]
  ·rw [decide_eq_false ho,zq443,if_neg (fun h => ho (hpos.2 h))]
 ·simp only [zq1599]
  rw [decide_eq_false (show ¬ ((posA o.ad kp : Nat) : Int) < ((posA o.ad kp : Nat) : Int) by omega),zq443]
theorem zq1170 {a b : Ad} : ordA a b = 0 ↔ a = b:=by
 constructor
 ·intro h
  obtain ⟨h1,h2,h3⟩:=(zq1171 a b).2.1 h
  have h1:=zq752 h1
  obtain ⟨av,ah,al⟩:=a
  obtain ⟨bv,bh,bl⟩:=b
  simp only at h1 h2 h3
  rw [h1,h2,h3]
 ·rintro rfl
  exact (zq1171 a a).2.2 ⟨rfl,rfl,rfl⟩
theorem zq1231 {kp : List Ad} (hpw : kp.Pairwise fun a b => ordA a b < 0) (a : Ad) : (match kp[posA a kp]? with | some e => decide (ordA e a = 0) | none => false) = kp.any (fun x => decide (a = x)):=by
 rw [Bool.eq_iff_iff,List.any_eq_true]
 constructor
 ·intro h
  split at h
  ·rename_i e he
   exact ⟨e,zc5 he,by simp [zq1170.1 (of_decide_eq_true h)]⟩
  ·cases h
 ·rintro ⟨x,hx,hax⟩
  have hax:=of_decide_eq_true hax
  subst hax
  obtain ⟨i,hi⟩:=zc30.1 hx
  have h1:=zq1232 hpw a hi
  have h0 : ¬ ordA a a < 0:=by rw [zq1170.2 rfl];omega
  have hle : posA a kp ≤ i:=by
   rcases Nat.lt_or_ge i (posA a kp) with h | h
   ·exact absurd (h1.2 h) h0
   ·exact h
  have hil:=(zc1.1 hi).1
  have hpos : posA a kp = i:=by
   rcases Nat.lt_or_ge (posA a kp) i with h | h
   ·obtain ⟨e,he⟩ : ∃ e,kp[posA a kp]? = some e:=⟨_,zc0 (by omega)⟩
    have h2:=zq1232 hpw a he
    have h3 : ordA e a < 0:=by
     rw [List.pairwise_iff_getElem] at hpw
     have:=hpw _ i (by omega) hil h
     rwa [(zc1.1 he).2,(zc1.1 hi).2] at this
    have:=h2.1 h3
    omega
   ·omega
  rw [hpos,hi]
  exact decide_eq_true (zq1170.2 rfl)
theorem zq1464 {α : Type} {l : List α} {i : Nat} {x : α} (h : l[i]? = some x) : l.set i x = l:=by
 obtain ⟨h1,h2⟩:=zc1.1 h
 rw [← h2]
 exact List.set_getElem_self h1
theorem zq1352 {ps : List Pf} {ks : List (List Ad)} {ls : List Ls} {now : Int} (h : StOk ps ks ls now) {o : Oq} (ho : o.In) (hf : formO o = 0) (hk : o.kind = 2) : zq1632 (ps,ks) ls now o = some (zq558 ps ks ls now o.ad):=by
 have hpl:=h.plen
 have hkl:=h.klen
 unfold zq1632 zq558
 rw [zq1575 ho,zq415,hf,decide_eq_true rfl,zc10,zq443,zq1584 h,zq415,decide_eq_false (show ¬ o.kind = 1 by omega),zq443,decide_eq_true hk,zq445]
 simp only
 rw [zq1648 h.pin (by omega) ks ls now ho.2.2.1,zq415]
 simp only [zq694]
 cases hx : zq1220 ps o.ad with
 | none => rfl
 | some i =>
  have hil:=zq606 hx
  obtain ⟨p,hp⟩ : ∃ e,ps[i]? = some e:=⟨_,zc0 hil⟩
  obtain ⟨k1,k2,k3,k4,k5⟩:=zq488.1 (h.pool i p hp)
  have hik : i < ks.length:=by omega
  simp only [Option.isNone,zq443,idxI,zq655]
  have r1 : zq697 (i : Int) (lenL ps) = true:=zq699 (by omega) (by unfold lenL;omega)
  have hb:=zq756 k5 (by omega) ps ks ls now o (i:=i) rfl
  simp only [r1,zq1400,zq657 hp,zq415]
  rw [hb,zq415]
  simp only [zq655]
  generalize hkp : ks.getD i [] = kp at *
  have hpo:=zq1233 o.ad kp
  have r2 : (br (decide (((posA o.ad kp : Nat) : Int) < lenL kp)) (req (zq697 ((posA o.ad kp : Nat) : Int) (lenL kp)) ((geti kp ((posA o.ad kp : Nat) : Int)).bind fun p6 => (zq349 p6 o.ad).bind fun y7 => some (((posA o.ad kp : Nat) : Int),decide (y7.1 = 0),()))) (some (((posA o.ad kp : Nat) : Int),false,()))) = some (((posA o.ad kp : Nat) : Int),kp.any (fun x => decide (o.ad = x)),()):=by
   rw [← zq1231 k5]
   by_cases hlt : posA o.ad kp < kp.length
   ·obtain ⟨e,he⟩ : ∃ e,kp[posA o.ad kp]? = some e:=⟨_,zc0 hlt⟩
    rw [decide_eq_true (show ((posA o.ad kp : Nat) : Int) < lenL kp by unfold lenL;omega),zq445,zq1398 (zq699 (by omega) (by unfold lenL;omega)),zq657 he,zq415,zq347,zq415,he]
   ·rw [decide_eq_false (show ¬ ((posA o.ad kp : Nat) : Int) < lenL kp by unfold lenL;omega),zq443,zc22 (by omega)]
  rw [r2,zq415]
  simp only
  cases hany : kp.any (fun x => decide (o.ad = x))
  rotate_left
  ·rfl
  simp only [zq443,zc16,if_false]
  by_cases h6 : kp.length = 6
  ·rw [decide_eq_true (show lenL kp = 6 by unfold lenL;omega),zq445,if_pos h6];rfl
  rw [decide_eq_false (show ¬ lenL kp = 6 by unfold lenL;omega),zq443,if_neg h6]
  have r3 : (decide ((0 : Int) ≤ ((posA o.ad kp : Nat) : Int)) && decide (((posA o.ad kp : Nat) : Int) ≤ lenL kp) && room (lenL kp) 1) = true:=by
   rw [decide_eq_true (show (0 : Int) ≤ ((posA o.ad kp : Nat) : Int) by omega),decide_eq_true (show ((posA o.ad kp : Nat) : Int) ≤ lenL kp by unfold lenL;omega),zq1424 (zq993 _) (by omega) (by unfold lenL;omega)]
   rfl
  simp only [Int.natCast_nonneg,decide_true,Bool.true_and] at r3 ⊢
  simp only [r3,zq1400]
  have e1 : (ks.set i []).length = ps.length:=by simp [hkl]
  simp only [seti,outL,zc40,zq1207 e1,outL,zc40,zq1464 hp,List.set_set,insL,okS,noAd,putAt]
theorem zq1200 {ps : List Pf} {ks : List (List Ad)} {ls : List Ls} {now : Int} (h : StOk ps ks ls now) (p : Pf) : Good p (ownL p ls):=by
 obtain ⟨_,a2,a3,_⟩:=zq369 h.all
 exact ⟨fun x hx => h.lin x (List.mem_filter.1 hx).1,fun x hx => a2 x (List.mem_filter.1 hx).1,fun x hx => (List.mem_filter.1 hx).2,((zq406 h.lin).1 a3).filter _,h.who.filter _⟩
theorem zq1201 {ps : List Pf} {ks : List (List Ad)} {ls : List Ls} {now : Int} (h : StOk ps ks ls now) {i : Nat} {p : Pf} (hp : ps[i]? = some p) : chkOf p (ks.getD i []) (ownL p ls) now = 0 :=
 (zq1200 h p).ok (h.pin p (zc5 hp)).1 (h.pool i p hp) h.time
section
variable {A R α : Type}
theorem zq634 {step : (A → Option R) → A → Option R} (b : List α) (q : α → Bool) (mk : Nat → List α → List α → A) (out : List α → List α → R) (hlen : b.length < 9223372036854775808)
  (h : ∀ (rec : A → Option R) (i : Nat) (x : α) (acc acc2 : List α),b[i]? = some x → i < b.length → acc.length ≤ i → acc2.length ≤ i → step rec (mk i acc acc2) = rec (mk (i + 1) (if q x then acc ++ [x] else acc) (if q x then acc2 else acc2 ++ [x])))
  (hend : ∀ (rec : A → Option R) (acc acc2 : List α),step rec (mk b.length acc acc2) = some (out acc acc2)) : loopN step FUEL (mk 0 [] []) = some (out (b.filter q) (b.filter fun x => !q x)):=by
 have:=zq1015 (step:=step) (fun i => mk i ((b.take i).filter q) ((b.take i).filter fun x => !q x)) b.length (fun _ => some (out (b.filter q) (b.filter fun x => !q x))) (fun rec i hi hr => ?_) (fun rec => ?_) FUEL 0 (Nat.zero_le _) (zq651 (by omega))
 ·simpa using this
 ·obtain ⟨e,he⟩ : ∃ e,b[i]? = some e:=⟨_,zc0 hi⟩
  have hle : ∀ q : α → Bool,((b.take i).filter q).length ≤ i:=fun q => Nat.le_trans (List.length_filter_le _ _) (by simp;omega)
  rw [h rec i e _ _ he hi (hle q) (hle _)]
  have ht : b.take (i + 1) = b.take i ++ [e]:=by
   rw [zc26 hi,(zc1.1 he).2]
  rw [ht] at hr
  rw [← hr,List.filter_append,List.filter_append]
  cases hq : q e <;> simp [List.filter,hq]
 ·rw [hend,List.take_length]
end
abbrev DGr:=List (List Ad) × List Pf × List Ls × (Int × Unit) × (Oq × Unit) × (Int × Unit) × List (List Ad) × List Pf × List Ls × (Ad × Unit) × List (List Ad) × List Pf × List Ls × (Int × Unit) × (Oq × Unit) × (Ad × Unit) × (Ad × Unit) × (Bool × Int × Int × Int × Int × Unit) × List Ls × List Ls × Unit
theorem zq679 (p : Pf) (cp : chkP p = 0) (ps : List Pf) (ks : List (List Ad)) {ls : List Ls} (hl : lsIn ls) (h20 : ls.length ≤ 20) (now : Int) (o : Oq) :
  loopN zq1590 FUEL (((),(o.who,()),(o.n,()),(),(),(),(),(),(lenL ls,()),(0,()),()),((ks,ps,ls,(now,()),(o,()),((0 : Int),()),([] : List (List Ad)),([] : List Pf),([] : List Ls),((⟨false,0,0⟩ : Ad),()),ks,ps,ls,(now,()),(o,()),((⟨false,0,0⟩ : Ad),()),((⟨false,0,0⟩ : Ad),()),(p.ad.v6,p.ad.hi,p.ad.lo,p.bits,o.of_,()),([] : List Ls),([] : List Ls),()) : DGr)) =
   some (((),(o.who,()),(o.n,()),(),(),(),(),()),((ks,ps,ls,(now,()),(o,()),((0 : Int),()),([] : List (List Ad)),([] : List Pf),([] : List Ls),((⟨false,0,0⟩ : Ad),()),ks,ps,ls,(now,()),(o,()),((⟨false,0,0⟩ : Ad),()),((⟨false,0,0⟩ : Ad),()),(p.ad.v6,p.ad.hi,p.ad.lo,p.bits,o.of_,()),ownL p ls,othL p ls,()) : DGr)):=by
 obtain ⟨b1,b2⟩:=zq485 cp
 refine zq634 (step:=zq1590) ls (fun x => holds p x.ad) (fun i a b => (((),(o.who,()),(o.n,()),(),(),(),(),(),(lenL ls,()),((i : Int),()),()),((ks,ps,ls,(now,()),(o,()),((0 : Int),()),([] : List (List Ad)),([] : List Pf),([] : List Ls),((⟨false,0,0⟩ : Ad),()),ks,ps,ls,(now,()),(o,()),((⟨false,0,0⟩ : Ad),()),((⟨false,0,0⟩ : Ad),()),(p.ad.v6,p.ad.hi,p.ad.lo,p.bits,o.of_,()),a,b,()) : DGr)))
  (fun a b => (((),(o.who,()),(o.n,()),(),(),(),(),()),((ks,ps,ls,(now,()),(o,()),((0 : Int),()),([] : List (List Ad)),([] : List Pf),([] : List Ls),((⟨false,0,0⟩ : Ad),()),ks,ps,ls,(now,()),(o,()),((⟨false,0,0⟩ : Ad),()),((⟨false,0,0⟩ : Ad),()),(p.ad.v6,p.ad.hi,p.ad.lo,p.bits,o.of_,()),a,b,()) : DGr))) (by omega) (fun rec i x a b hx hi ha hb => ?_) (fun rec a b => ?_)
 ·simp only [zq1590]
  rw [decide_eq_true (show (i : Int) < lenL ls by unfold lenL;omega),zq445,zq1398 (zq699 (by omega) (by unfold lenL;omega)),zq657 hx,zq415,zq1260 (p:=p) b1 b2 (hl x (zc5 hx)).1,zq415]
  rw [show ((i : Int) + 1) = ((i + 1 : Nat) : Int) by omega]
  cases holds p x.ad
  ·rw [zq443,zq1398 (zq1424 (zq993 _) (zq993 _) (by unfold lenL;simp;omega)),zq1398 (zq693 (by omega) (by omega))]
   simp
  ·rw [zq445,zq1398 (zq1424 (zq993 _) (zq993 _) (by unfold lenL;simp;omega)),zq1398 (zq693 (by omega) (by omega))]
   simp
 ·simp only [zq1590]
  rw [decide_eq_false (show ¬ (ls.length : Int) < lenL ls by unfold lenL;omega),zq443]
end Go.Ma
namespace Go.Ma
open Go
theorem zq677 {ps : List Pf} {ks : List (List Ad)} {ls : List Ls} {now : Int} (h : StOk ps ks ls now) {i : Nat} {p : Pf} (hp : ps[i]? = some p) {who : ByteArray} (hs : strIn who) (hw : whoOk who = true) {ttl : Int} (ht : betw ttl 1 500 = true)
  (hr : ¬ (zq676 p (ks.getD i []) ls who now ttl).2.2.1 = false) : Given p (ks.getD i []) (ownL p ls) who now (now + ttl) (zq676 p (ks.getD i []) ls who now ttl).1 (zq676 p (ks.getD i []) ls who now ttl).2.1:=by
 have hg : zq674 p (ks.getD i []) (ownL p ls) who now ttl = ((zq676 p (ks.getD i []) ls who now ttl).1,(zq676 p (ks.getD i []) ls who now ttl).2.1,0,()):=by
  unfold zq674
  unfold zq676 at hr ⊢
  rw [if_neg (fun hh => hh (zq1201 h hp)),if_neg (by simp [hw]),if_neg (by simp [ht]),if_neg hr]
 exact (zq662 (h.pin p (zc5 hp)).1 (zq1200 h p).ins hs hg).2.2
theorem zq393 : ∀ {l : List Ls},(l.Pairwise fun x y => x.ad ≠ y.ad) → zq390 l = true
 | [],_ => rfl
 | x :: r,h => by
  obtain ⟨h1,h2⟩:=zc44.1 h
  simp only [zq390,zc4,List.all_eq_true,decide_eq_true_eq]
  exact ⟨fun y hy => Ne.symm (h1 y hy),zq393 h2⟩
theorem zq405 {l : List Ls} (h : l.Pairwise fun x y => rank x.ad < rank y.ad) : l.Pairwise fun x y => x.ad ≠ y.ad:=h.imp fun hab e => by rw [e] at hab;omega
theorem zq1057 {p : Pf} {m b : List Ls} (hm : m.Pairwise fun x y => x.ad ≠ y.ad) (hb : b.Pairwise fun x y => x.ad ≠ y.ad) (h1 : ∀ x ∈ m,holds p x.ad = true) (h2 : ∀ x ∈ b,holds p x.ad = false) : (m ++ b).Pairwise fun x y => x.ad ≠ y.ad:=by
 rw [List.pairwise_append]
 exact ⟨hm,hb,fun x hx y hy e => by
  have e1:=h1 x hx
  rw [e,h2 y hy] at e1
  cases e1⟩
theorem zq1183 {ps : List Pf} {ks : List (List Ad)} {ls : List Ls} {now : Int} (h : StOk ps ks ls now) (p : Pf) : (othL p ls).Pairwise fun x y => rank x.ad < rank y.ad:=((zq406 h.lin).1 (zq369 h.all).2.2.1).filter _
theorem zq1184 {p : Pf} {ls : List Ls} : ∀ x ∈ othL p ls,holds p x.ad = false:=fun x hx => by simpa using (List.mem_filter.1 hx).2
theorem zq1052 {ps : List Pf} {ks : List (List Ad)} {ls : List Ls} {now : Int} (h : StOk ps ks ls now) {p : Pf} {kp : List Ad} {l : List Ls} {who : ByteArray} {u : Int} {m : List Ls} {a : Ad} (g : Given p kp l who now u m a) (hlen : m.length + (othL p ls).length ≤ 20) : zq1530 (m ++ othL p ls) = true:=by
 unfold zq1530
 have hne : (m ++ othL p ls).isEmpty = false:=by
  have:=g.mine
  cases m with
  | nil => cases this
  | cons x r => rfl
 rw [hne,zq1424 (zq993 _) (by omega) (by unfold lenL;simp;omega),zq393 (zq1057 (zq405 g.good.asc) (zq405 (zq1183 h p)) g.good.held zq1184)]
 rfl
theorem zq1351 {ps : List Pf} {ks : List (List Ad)} {ls : List Ls} {now : Int} (h : StOk ps ks ls now) {o : Oq} (ho : o.In) (hf : formO o = 0) (hk : o.kind = 3) : zq1632 (ps,ks) ls now o = some (zq557 ps ks ls now o.who o.of_ o.n):=by
 obtain ⟨g1,g2⟩:=zq640 hf hk
 have hw:=zq645 hf (.inl hk)
 obtain ⟨o1,o2⟩:=zq413.1 g1
 obtain ⟨n1,n2⟩:=zq413.1 g2
 obtain ⟨t1,t2⟩:=zq413.1 h.time
 have hpl:=h.plen
 have hkl:=h.klen
 have hll:=h.llen
 obtain ⟨k,hk'⟩ : ∃ k : Nat,o.of_ = (k : Int):=⟨o.of_.toNat,by omega⟩
 unfold zq1632 zq557
 rw [zq1575 ho,zq415,hf,decide_eq_true rfl,zc10,zq443,zq1584 h,zq415,decide_eq_false (show ¬ o.kind = 1 by omega),zq443,decide_eq_false (show ¬ o.kind = 2 by omega),zq443,decide_eq_true hk,zq445]
 simp only
 rw [hk',zc40]
 by_cases hkp : k < ps.length
 rotate_left
 ·rw [decide_eq_true (show (k : Int) ≥ lenL ps by unfold lenL;omega),zq445,zc22 (by omega)];rfl
 obtain ⟨p,hp⟩ : ∃ e,ps[k]? = some e:=⟨_,zc0 hkp⟩
 obtain ⟨pin,cp⟩:=h.pin p (zc5 hp)
 obtain ⟨b1,b2⟩:=zq485 cp
 rw [decide_eq_false (show ¬ (k : Int) ≥ lenL ps by unfold lenL;omega),zq443,zq1398 (zq699 (by omega) (by unfold lenL;omega)),zq657 hp,zq415,zq1639 ps ks (by omega) now o.who,zq415,hp]
 simp only
 have haw : (br (decide (idxI (zq603 (whoP o.who) ls) ≥ 0)) (req (zq697 (idxI (zq603 (whoP o.who) ls)) (lenL ls)) (req (zq697 (idxI (zq603 (whoP o.who) ls)) (lenL ls)) ((geti ls (idxI (zq603 (whoP o.who) ls))).bind fun p5 => (zq1262 p p5.ad).bind fun y6 => some (!y6.1)))) (some false)) = some (awayB p ls o.who):=by
  unfold awayB
  rw [zq695]
  cases hw : zq603 (whoP o.who) ls with
  | none => rfl
  | some i =>
   have hil:=zq606 hw
   obtain ⟨x,hx⟩ : ∃ e,ls[i]? = some e:=⟨_,zc0 hil⟩
   have r1 : zq697 (i : Int) (lenL ls) = true:=zq699 (by omega) (by unfold lenL;omega)
   simp only [idxI,hx,Option.isSome]
   rw [zq445,zq1398 r1,zq1398 r1,zq657 hx,zq415,zq1260 b1 b2 (h.lin x (zc5 hx)).1,zq415]
 rw [haw,zq415]
 cases awayB p ls o.who
 rotate_left
 ·rfl
 simp only [zq443,zc16,if_false]
 have hsp:=zq679 p cp ps ks h.lin hll now o
 rw [hk'] at hsp
 rw [hsp,zq415,zq570]
 simp only [zq655]
 have hok:=zq483 (zq1201 h hp)
 have hrw:=zq952 (p:=p) pin (kp:=ks.getD k []) (zq1200 h p).ins (now:=now) (ttl:=o.n) hok.1 hok.2.1 (by omega) (by omega) o.who
 rw [show (⟨(⟨p.ad.v6,p.ad.hi,p.ad.lo⟩ : Ad),p.bits⟩ : Pf) = p from rfl,hrw,zq415]
 show br (!(zq676 p (ks.getD k []) ls o.who now o.n).2.2.1) _ _ = _
 cases hr : (zq676 p (ks.getD k []) ls o.who now o.n).2.2.1
 ·rfl
 have gv:=zq677 h hp ho.2.2.2.1 hw g2 (by rw [hr];simp)
 unfold zq676 at gv ⊢
 simp only [zc10,zq443,Bool.true_eq_false,if_false]
 have hml:=gv.good.len pin cp (zq489 (h.pool k p hp)).2.1
 have hol : (othL p ls).length ≤ 20:=Nat.le_trans (List.length_filter_le _ _) hll
 generalize hR : rawOf p (ks.getD k []) (live (ownL p ls) now) o.who (now + o.n) = r at *
 rw [zq1398 (zq693 (by unfold lenL;omega) (by unfold lenL;omega))]
 by_cases h20 : r.1.length + (othL p ls).length > 20
 ·rw [decide_eq_true (show lenL r.1 + lenL (othL p ls) > 20 by unfold lenL;omega),zq445,if_pos h20];rfl
 ·rw [decide_eq_false (show ¬ lenL r.1 + lenL (othL p ls) > 20 by unfold lenL;omega),zq443,if_neg h20,zq1398 (zq1424 (zq993 _) (zq993 _) (by unfold lenL;omega)),zq1398 (zq1052 h gv (by omega))]
  rfl
theorem zq1350 {ps : List Pf} {ks : List (List Ad)} {ls : List Ls} {now : Int} (h : StOk ps ks ls now) {o : Oq} (ho : o.In) (hf : formO o = 0) (hk : o.kind = 4) : zq1632 (ps,ks) ls now o = some (zq556 ps ks ls now o.who):=by
 have hll:=h.llen
 unfold zq1632 zq556
 rw [zq1575 ho,zq415,hf,decide_eq_true rfl,zc10,zq443,zq1584 h,zq415,decide_eq_false (show ¬ o.kind = 1 by omega),zq443,decide_eq_false (show ¬ o.kind = 2 by omega),zq443,decide_eq_false (show ¬ o.kind = 3 by omega),zq443,decide_eq_true hk,zq445]
 simp only
 rw [zq1639 ps ks (by omega) now o.who,zq415]
 simp only [zq694]
 cases hw : zq603 (whoP o.who) ls with
 | none => rfl
 | some i =>
  have hil:=zq606 hw
  obtain ⟨x,hx⟩ : ∃ e,ls[i]? = some e:=⟨_,zc0 hil⟩
  have r1 : zq697 (i : Int) (lenL ls) = true:=zq699 (by omega) (by unfold lenL;omega)
  have r2 : (decide ((0 : Int) ≤ (i : Int)) && decide ((i : Int) ≤ (i : Int) + 1) && decide ((i : Int) + 1 ≤ lenL ls)) = true:=by
   rw [decide_eq_true (show (0 : Int) ≤ (i : Int) by omega),decide_eq_true (show (i : Int) ≤ (i : Int) + 1 by omega),decide_eq_true (show (i : Int) + 1 ≤ lenL ls by unfold lenL;omega)]
   rfl
  have e1 : ((i : Int) + 1).toNat = i + 1:=by omega
  simp only [Option.isNone,zq443]
  rw [show idxI (some i) = (i : Int) from rfl,zq1398 r1,zq1398 r1,zq657 hx,zq415,zq1398 (zq693 (by omega) (by omega)),zq1398 r2,hx]
  simp only [okS,delL,e1,zc40]
theorem zq1354 {ps : List Pf} {ks : List (List Ad)} {ls : List Ls} {now : Int} (h : StOk ps ks ls now) {o : Oq} (ho : o.In) (hf : formO o = 0) (hk : o.kind = 5) : zq1632 (ps,ks) ls now o = some (zq563 ps ks ls now o.n):=by
 have hll:=h.llen
 unfold zq1632 zq563
 rw [zq1575 ho,zq415,hf,decide_eq_true rfl,zc10,zq443,zq1584 h,zq415,decide_eq_false (show ¬ o.kind = 1 by omega),zq443,decide_eq_false (show ¬ o.kind = 2 by omega),zq443,decide_eq_false (show ¬ o.kind = 3 by omega),zq443,decide_eq_false (show ¬ o.kind = 4 by omega),zq443]
 simp only
 by_cases hn : o.n < now
 ·rw [decide_eq_true hn,zq445,if_pos hn];rfl
 ·rw [decide_eq_false hn,zq443,if_neg hn,zq909 (by omega),zq415];rfl
theorem zq1630 {ps : List Pf} {ks : List (List Ad)} {ls : List Ls} {now : Int} (h : StOk ps ks ls now) {o : Oq} (ho : o.In) : zq1632 (ps,ks) ls now o = some (doOf ps ks ls now o):=by
 unfold doOf
 by_cases hf : formO o = 0
 rotate_left
 ·rw [if_pos hf]
  unfold zq1632
  rw [zq1575 ho,zq415,decide_eq_false hf,zc19,zq445]
  rfl
 rw [if_neg (fun hh => hh hf)]
 have hk:=zq642 hf
 by_cases k1 : o.kind = 1
 ·rw [if_pos k1,zq1353 h ho hf k1]
 by_cases k2 : o.kind = 2
 ·rw [if_neg k1,if_pos k2,zq1352 h ho hf k2]
 by_cases k3 : o.kind = 3
 ·rw [if_neg k1,if_neg k2,if_pos k3,zq1351 h ho hf k3]
 by_cases k4 : o.kind = 4
 ·rw [if_neg k1,if_neg k2,if_neg k3,if_pos k4,zq1350 h ho hf k4]
 ·rw [if_neg k1,if_neg k2,if_neg k3,if_neg k4,zq1354 h ho hf (by omega)]
theorem zq1569 {ps : List Pf} (hp : ∀ p ∈ ps,p.In) {ks : List (List Ad)} (hk : kpIn ks) {ls : List Ls} (hl : lsIn ls) (hlen : ks.length = ps.length) (now : Int) {o : Oq} (ho : o.In) : zq1571 (ps,ks) ls now o = some (stDo ps ks ls now o):=by
 unfold zq1571 stDo
 rw [zq1563 hp hk hl,zq415]
 by_cases hc : chkS ps ks ls now = 0
 rotate_left
 ·rw [decide_eq_false hc,zc19,zq445,if_pos hc];rfl
 rw [decide_eq_true hc,zc10,zq443,if_neg (fun hh => hh hc),zq1630 (zq1546 hp hk hl hlen hc) ho,zq415]
end Go.Ma
namespace Go.Ma
open Go
def insT {α : Type} (l : List α) (k : Nat) (p : α) (i : Nat) : List α:=if i ≤ k then l.take i else l.take k ++ p :: (l.take i).drop k
theorem zq734 {α : Type} (l : List α) (k : Nat) (p : α) (i : Nat) (hi : i ≤ l.length) : (insT l k p i).length = if i ≤ k then i else i + 1:=by
 unfold insT
 split
 ·simp;omega
 ·simp;omega
theorem zq735 {α : Type} {l : List α} (k : Nat) (p : α) {i : Nat} {x : α} (hx : l[i]? = some x) : insT l k p (i + 1) = if i = k then insT l k p i ++ [p] ++ [x] else insT l k p i ++ [x]:=by
 have hi:=(zc1.1 hx).1
 have ht : l.take (i + 1) = l.take i ++ [x]:=by rw [zc26 hi,(zc1.1 hx).2]
 unfold insT
 by_cases h1 : i = k
 ·subst h1
  rw [if_neg (by omega),if_pos rfl,if_pos (zc46 _),ht,List.drop_append,zc18 (by simp;omega),zc20,Nat.min_eq_left (by omega),Nat.sub_self]
  simp
 ·rw [if_neg h1]
  by_cases h2 : i + 1 ≤ k
  ·rw [if_pos h2,if_pos (by omega),ht]
  ·rw [if_neg h2,if_neg (by omega),ht,List.drop_append,zc20,Nat.min_eq_left (by omega),show k - i = 0 by omega]
   simp
theorem zq733 {α : Type} (l : List α) (k : Nat) (p : α) (hk : k ≤ l.length) : (if k < l.length then insT l k p l.length else insT l k p l.length ++ [p]) = putAt l k p:=by
 unfold insT putAt
 by_cases h : k < l.length
 ·rw [if_pos h,if_neg (by omega),List.take_length]
 ·have : k = l.length:=by omega
  subst this
  rw [if_neg h,if_pos (zc46 _),List.take_length,List.drop_length]
theorem zq1045 {p : Pf} (cp : chkP p = 0) : meets p p = true:=by unfold meets;rw [zq1191 cp];rfl
theorem zq360 {ps : List Pf} (hpw : ps.Pairwise zq391) {p : Pf} {i : Nat} {x : Pf} (hx : ps[i]? = some x) (hne : x ≠ p) : decide (ordP p x < 0) = decide (posP p ps ≤ i):=by
 have h1:=zq1236 hpw p hx
 refine decide_eq_decide.2 ⟨fun h => ?_,fun h => ?_⟩
 ·rcases Nat.lt_or_ge i (posP p ps) with hlt | hge
  ·have:=zq1178 h (h1.2 hlt)
   rw [zq1177] at this
   omega
  ·exact hge
 ·have h2 : ¬ ordP x p < 0:=fun hh => by have:=h1.1 hh;omega
  by_cases h3 : ordP p x < 0
  ·exact h3
  ·exfalso
   apply hne
   rw [zq1174] at h2 h3
   have hv:=zq752 (v:=x.ad.v6) (w:=p.ad.v6) (by omega)
   obtain ⟨⟨xv,xh,xl⟩,xb⟩:=x
   obtain ⟨⟨pv,ph,pl⟩,pb⟩:=p
   simp only at hv h2 h3 ⊢
   have e1 : xh = ph:=by omega
   have e2 : xl = pl:=by omega
   have e3 : xb = pb:=by omega
   rw [hv,e1,e2,e3]
def cMeet (ps : List Pf) (p : Pf) (i : Nat) : Int:=match ps[i]? with | some x => if meets x p = true then 6 else 0 | none => 0
def fMeet (ps : List Pf) (p : Pf) (i : Nat) : Int:=if (ps.drop i).any (fun x => meets x p) = true then 6 else 0
theorem zq1372 {ps : List Pf} {ks : List (List Ad)} {ls : List Ls} {now : Int} (h : StOk ps ks ls now) {o : Oq} (ho : o.In) (cp : chkP o.pf = 0) :
  loopN zq96 FUEL (((),(),(),(),(),(false,()),(0,()),()),(ks,ps,ls,(),(now,()),(o,()),((0 : Int),()),((⟨false,0,0⟩ : Ad),()),(now,()),([] : List Pf),([] : List Ls),([] : List Pf),([] : List (List Ad)),([] : List (List Ad)),())) =
   some (if ps.any (fun x => meets x o.pf) = true then Sum.inl (((),(),(6,()),()),(ks,ps,ls,(),(0,()),((⟨false,0,0⟩ : Ad),()),([] : List Pf),([] : List Ls),([] : List (List Ad)),()))
    else Sum.inr (((),(),(),(),(decide (posP o.pf ps < ps.length),()),()),(ks,ps,ls,(),(o,()),(0,()),((⟨false,0,0⟩ : Ad),()),(now,()),([] : List Pf),([] : List Ls),insT ps (posP o.pf ps) o.pf ps.length,([] : List (List Ad)),insT ks (posP o.pf ps) [] ps.length,()))):=by
 have hpl:=h.plen
 have hkl:=h.klen
 have:=zq490 (step:=zq96) ps.length 0 (Nat.zero_le _) (by omega) (cMeet ps o.pf) (fMeet ps o.pf)
  (fun i => (((),(),(),(),(),(decide (posP o.pf ps < i),()),((i : Int),()),()),(ks,ps,ls,(),(now,()),(o,()),((0 : Int),()),((⟨false,0,0⟩ : Ad),()),(now,()),([] : List Pf),([] : List Ls),insT ps (posP o.pf ps) o.pf i,([] : List (List Ad)),insT ks (posP o.pf ps) [] i,())))
  (Sum.inr (((),(),(),(),(decide (posP o.pf ps < ps.length),()),()),(ks,ps,ls,(),(o,()),(0,()),((⟨false,0,0⟩ : Ad),()),(now,()),([] : List Pf),([] : List Ls),insT ps (posP o.pf ps) o.pf ps.length,([] : List (List Ad)),insT ks (posP o.pf ps) [] ps.length,())))
  (fun e => Sum.inl (((),(),(e,()),()),(ks,ps,ls,(),(0,()),((⟨false,0,0⟩ : Ad),()),([] : List Pf),([] : List Ls),([] : List (List Ad)),()))) (fun i _ hi => ?_) (by unfold fMeet;rw [List.drop_length];rfl) (fun rec i _ hi _ => ?_) (fun rec _ => ?_)
 ·rw [show ((0 : Nat) : Int) = 0 from rfl] at this
  have e1 : insT ps (posP o.pf ps) o.pf 0 = []:=by unfold insT;rw [if_pos (Nat.zero_le _)];rfl
  have e2 : insT ks (posP o.pf ps) [] 0 = []:=by unfold insT;rw [if_pos (Nat.zero_le _)];rfl
  rw [e1,e2,decide_eq_false (show ¬ posP o.pf ps < 0 by omega)] at this
  rw [this]
  unfold fMeet
  rw [List.drop_zero]
  cases ps.any (fun x => meets x o.pf) <;> rfl
 ·obtain ⟨x,hx⟩ : ∃ e,ps[i]? = some e:=⟨_,zc0 hi⟩
  unfold cMeet fMeet
  rw [hx,zq568 hx,List.any_cons]
  dsimp only
  by_cases hb : meets x o.pf = true <;> simp [hb]
 ·obtain ⟨x,hx⟩ : ∃ e,ps[i]? = some e:=⟨_,zc0 hi⟩
  obtain ⟨g1,g2⟩:=h.pin x (zc5 hx)
  have r1 : zq697 (i : Int) (lenL ps) = true:=zq699 (by omega) (by unfold lenL;omega)
  have hki : i < ks.length:=by omega
  have hkx : ks[i]? = some (ks.getD i []):=by rw [zc3,zc0 hki];rfl
  have l1:=zq734 ps (posP o.pf ps) o.pf i (by omega)
  have l2:=zq734 ks (posP o.pf ps) [] i (by omega)
  have s1:=zq735 (posP o.pf ps) o.pf hx
  have s2:=zq735 (posP o.pf ps) [] hkx
  have hlen : (insT ks (posP o.pf ps) [] i).length = (insT ps (posP o.pf ps) o.pf i).length:=by rw [l1,l2]
  have hle : (insT ps (posP o.pf ps) o.pf i).length ≤ i + 1:=by rw [l1];split <;> omega
  unfold cMeet
  rw [hx]
  simp only [zq96]
  simp only [r1,zq1400,zq657 hx,zq415,zq93 g1 ho.2.1 g2 cp,zq196 ho.2.1 g1 cp g2,zq357 ho.2.1 g1,zq570,zq441,zq655]
  rw [decide_eq_true (show (i : Int) < lenL ps by unfold lenL;omega),zq445]
  simp only [show (over x o.pf || over o.pf x) = meets x o.pf from rfl]
  cases hm : meets x o.pf
  rotate_left
  ·rfl
  have hne : x ≠ o.pf:=fun e => by rw [e,zq1045 cp] at hm;cases hm
  rw [zq360 h.pair hx hne]
  simp only [zq443,zc16,if_false,ne_eq,not_true]
  rw [zq1207 hlen,zq1207 (show (insT ks (posP o.pf ps) [] i ++ ([([] : List Ad)] : List (List Ad))).length = (insT ps (posP o.pf ps) o.pf i ++ ([o.pf] : List Pf)).length by simp [hlen])]
  rw [zq1398 (zq693 (by omega) (by omega)),zq1398 (zq693 (by omega) (by omega)),zq1398 (zq1424 (zq993 _) (zq993 _) (by unfold lenL;simp;omega)),zq1398 (zq1424 (zq993 _) (zq993 _) (by unfold lenL;simp;omega)),zq1398 (zq1424 (zq993 _) (zq993 _) (by unfold lenL;simp;omega))]
  rw [show ((i : Int) + 1) = ((i + 1 : Nat) : Int) by omega]
  rcases Nat.lt_trichotomy i (posP o.pf ps) with hlt | heq | hgt
  ·rw [decide_eq_false (show ¬ posP o.pf ps < i by omega),decide_eq_false (show ¬ posP o.pf ps ≤ i by omega)]
   rw [if_neg (by omega)] at s1 s2
   rw [s1,s2,decide_eq_false (show ¬ posP o.pf ps < i + 1 by omega)]
   rfl
  ·rw [decide_eq_false (show ¬ posP o.pf ps < i by omega),decide_eq_true (show posP o.pf ps ≤ i by omega)]
   rw [if_pos heq] at s1 s2
   rw [s1,s2,decide_eq_true (show posP o.pf ps < i + 1 by omega)]
   rfl
  ·rw [decide_eq_true (show posP o.pf ps < i by omega),decide_eq_true (show posP o.pf ps ≤ i by omega)]
   rw [if_neg (by omega)] at s1 s2
   rw [s1,s2,decide_eq_true (show posP o.pf ps < i + 1 by omega)]
   rfl
 ·simp only [zq96]
  rw [decide_eq_false (show ¬ (ps.length : Int) < lenL ps by unfold lenL;omega),zq443]
theorem zq1378 {ps : List Pf} {ks : List (List Ad)} {ls : List Ls} {now : Int} (h : StOk ps ks ls now) {o : Oq} (ho : o.In) (hf : formO o = 0) (hk : o.kind = 1) : zq119 (ps,ks) ls now o = some (zq562 ps ks ls now o.pf):=by
 obtain ⟨c1,c2⟩:=zq643 hf hk
 have hpl:=h.plen
 have hkl:=h.klen
 have hpo:=zq1237 o.pf ps
 unfold zq119 zq562
 rw [zq51 ho,zq415,hf,decide_eq_true rfl,zc10,zq443,decide_eq_true hk,zq445]
 simp only
 rw [zq1372 h ho c1,zq415]
 cases ha : ps.any (fun x => meets x o.pf)
 rotate_left
 ·rfl
 simp only [zc16,if_false,sumC]
 have e1:=zq733 ps (posP o.pf ps) o.pf hpo
 have e2:=zq733 ks (posP o.pf ps) [] (by omega)
 have l1:=zq734 ps (posP o.pf ps) o.pf ps.length (zc46 _)
 have l2:=zq734 ks (posP o.pf ps) [] ps.length (by omega)
 have hlen : (insT ks (posP o.pf ps) [] ps.length).length = (insT ps (posP o.pf ps) o.pf ps.length).length:=by rw [l1,l2]
 have hl4 : (putAt ps (posP o.pf ps) o.pf).length = ps.length + 1:=zq449 ps o.pf _ hpo
 rw [zq1207 hlen]
 rw [hkl] at e2
 by_cases hlt : posP o.pf ps < ps.length
 ·rw [if_pos hlt] at e1 e2
  rw [decide_eq_true hlt,zc10,zq443,e1,e2]
  by_cases h3 : ps.length = 3
  ·rw [decide_eq_true (show lenL (putAt ps (posP o.pf ps) o.pf) > 3 by unfold lenL;omega),zq445,if_pos h3];rfl
  ·rw [decide_eq_false (show ¬ lenL (putAt ps (posP o.pf ps) o.pf) > 3 by unfold lenL;omega),zq443,if_neg h3];rfl
 ·rw [if_neg hlt] at e1 e2
  rw [decide_eq_false hlt,zc19,zq445,zq1398 (zq1424 (zq993 _) (zq993 _) (by
   have : (insT ps (posP o.pf ps) o.pf ps.length).length ≤ 4:=by rw [l1];split <;> omega
   unfold lenL;simp;omega)),e1,e2]
  by_cases h3 : ps.length = 3
  ·rw [decide_eq_true (show lenL (putAt ps (posP o.pf ps) o.pf) > 3 by unfold lenL;omega),zq445,if_pos h3];rfl
  ·rw [decide_eq_false (show ¬ lenL (putAt ps (posP o.pf ps) o.pf) > 3 by unfold lenL;omega),zq443,if_neg h3];rfl
theorem zq1169 {a b : Ad} (h : ordA a b < 0) : ¬ ordA b a < 0:=fun h2 => by
 have:=zq1172 h h2
 rw [zq1170.2 rfl] at this
 omega
theorem zq1173 {a b : Ad} (h : ¬ ordA a b < 0) (hne : a ≠ b) : ordA b a < 0:=by
 by_cases h2 : ordA b a < 0
 ·exact h2
 ·exfalso
  apply hne
  rw [← zq1170]
  have h1:=(zq1171 a b).1
  have h3:=(zq1171 b a).1
  have:=(zq1171 a b).2
  rw [h1] at h
  rw [h3] at h2
  exact this.2 (by omega)
theorem zq1373 {kp : List Ad} (hin : adIn kp) (hch : ∀ a ∈ kp,chkA a = 0) (hpw : kp.Pairwise fun a b => ordA a b < 0) (hlen : kp.length ≤ 6) (ps : List Pf) (ks : List (List Ad)) (ls : List Ls) (now : Int) {a : Ad} (ha : a.In) (ca : chkA a = 0) (hno : kp.any (fun x => decide (a = x)) = false) (i : Nat) :
  loopN zq99 FUEL (((),(),(),(),((i : Int),()),(),((kp.length : Int),()),()),(ks,ps,ls,(),(now,()),((0 : Int),()),((⟨false,0,0⟩ : Ad),()),(now,()),kp ++ [a],([] : List Pf),([] : List Ls),([] : List (List Ad)),())) =
   some (((),(),(),(),((i : Int),()),(),()),(ks,ps,ls,(),(now,()),((0 : Int),()),((⟨false,0,0⟩ : Ad),()),(now,()),putAt kp (posA a kp) a,([] : List Pf),([] : List Ls),([] : List (List Ad)),())):=by
 have hne : ∀ x ∈ kp,a ≠ x:=fun x hx e => by
  rw [List.any_eq_false] at hno
  exact hno x hx (decide_eq_true e)
 refine zq450 (step:=zq99) kp a (posA a kp) (zq1233 _ _) (by omega) (fun k l => (((),(),(),(),((i : Int),()),(),((k : Int),()),()),(ks,ps,ls,(),(now,()),((0 : Int),()),((⟨false,0,0⟩ : Ad),()),(now,()),l,([] : List Pf),([] : List Ls),([] : List (List Ad)),()))) _ (fun rec k hk hkl => ?_) (fun rec => ?_)
 ·obtain ⟨y,hy⟩ : ∃ e,kp[k - 1]? = some e:=⟨_,zc0 (by omega)⟩
  have hym:=zc5 hy
  have hlt : ordA a y < 0:=zq1173 (fun h => by have:=(zq1232 hpw a hy).1 h;omega) (Ne.symm (hne y hym))
  have hL:=zq449 kp a k hkl
  have r1 : zq697 (k : Int) (lenL (kp.take k ++ a :: kp.drop k)) = true:=zq699 (by omega) (by unfold lenL;rw [hL];omega)
  have r2 : zq697 ((k : Int) - 1) (lenL (kp.take k ++ a :: kp.drop k)) = true:=zq699 (by omega) (by unfold lenL;rw [hL];omega)
  have r3 : i64ok ((k : Int) - 1) = true:=zq693 (by omega) (by omega)
  have ek : ((k : Int) - 1) = ((k - 1 : Nat) : Int):=by omega
  have g1 : geti (kp.take k ++ a :: kp.drop k) (k : Int) = some a:=zq657 (zq448 kp a k hkl)
  have g2 : geti (kp.take k ++ a :: kp.drop k) ((k : Int) - 1) = some y:=by rw [ek];exact zq657 (by rw [zq451 kp a k (k - 1) (by omega) hkl,hy])
  have hs : seti (seti (kp.take k ++ a :: kp.drop k) (k : Int) y) ((k : Int) - 1) a = kp.take (k - 1) ++ a :: kp.drop (k - 1):=by
   rw [ek]
   simp only [seti,zc40]
   exact zq452 kp a k y (by omega) hkl hy
  have r4 : zq697 ((k : Int) - 1) (lenL (seti (kp.take k ++ a :: kp.drop k) (k : Int) y)) = true:=zq699 (by omega) (by unfold lenL seti;rw [zc42,hL];omega)
  obtain ⟨z,hz⟩ : ∃ z,geti (seti (kp.take k ++ a :: kp.drop k) (k : Int) y) ((k : Int) - 1) = some z:=by
   rw [ek,zq658]
   exact ⟨_,zc0 (by simp only [seti,zc42,hL];omega)⟩
  simp only [zq99]
  simp only [r1,r2,r3,r4,zq1400,g1,g2,hz,zq415,zq153 ha (hin y hym) ca (hch y hym),zq359 ha (hin y hym)]
  rw [decide_eq_true (show (k : Int) > 0 by omega),zq445,zq415,decide_eq_true hlt,zq445,hs,ek]
 ·simp only [zq99]
  have hL:=zq449 kp a (posA a kp) (zq1233 _ _)
  by_cases h0 : posA a kp = 0
  ·rw [decide_eq_false (show ¬ ((posA a kp : Nat) : Int) > 0 by omega),zq443,zq415,zq443]
   rfl
  ·have hpl:=zq1233 a kp
   obtain ⟨y,hy⟩ : ∃ e,kp[posA a kp - 1]? = some e:=⟨_,zc0 (by omega)⟩
   have hym:=zc5 hy
   have hlt : ¬ ordA a y < 0:=zq1169 ((zq1232 hpw a hy).2 (by omega))
   have ek : (((posA a kp : Nat) : Int) - 1) = ((posA a kp - 1 : Nat) : Int):=by omega
   have r1 : zq697 ((posA a kp : Nat) : Int) (lenL (kp.take (posA a kp) ++ a :: kp.drop (posA a kp))) = true:=zq699 (by omega) (by unfold lenL;rw [hL];omega)
   have r2 : zq697 (((posA a kp : Nat) : Int) - 1) (lenL (kp.take (posA a kp) ++ a :: kp.drop (posA a kp))) = true:=zq699 (by omega) (by unfold lenL;rw [hL];omega)
   have r3 : i64ok (((posA a kp : Nat) : Int) - 1) = true:=zq693 (by omega) (by omega)
   have g1 : geti (kp.take (posA a kp) ++ a :: kp.drop (posA a kp)) ((posA a kp : Nat) : Int) = some a:=zq657 (zq448 kp a _ hpl)
   have g2 : geti (kp.take (posA a kp) ++ a :: kp.drop (posA a kp)) (((posA a kp : Nat) : Int) - 1) = some y:=by rw [ek];exact zq657 (by rw [zq451 kp a _ _ (by omega) hpl,hy])
   simp only [r1,r2,r3,zq1400,g1,g2,zq415,zq153 ha (hin y hym) ca (hch y hym),zq359 ha (hin y hym)]
   rw [decide_eq_true (show ((posA a kp : Nat) : Int) > 0 by omega),zq445,zq415,decide_eq_false hlt,zq443]
   rfl
theorem zq1371 {ps : List Pf} {ks : List (List Ad)} {ls : List Ls} {now : Int} (h : StOk ps ks ls now) {o : Oq} (ho : o.In) (hf : formO o = 0) (hk : o.kind = 2) : zq119 (ps,ks) ls now o = some (zq558 ps ks ls now o.ad):=by
 have ca:=zq641 hf hk
 have hpl:=h.plen
 have hkl:=h.klen
 unfold zq119 zq558
 rw [zq51 ho,zq415,hf,decide_eq_true rfl,zc10,zq443,decide_eq_false (show ¬ o.kind = 1 by omega),zq443,decide_eq_true hk,zq445,zq190 h.pin (by omega) ks ls now ho.2.2.1 ca,zq415]
 simp only [zq694]
 cases hx : zq1220 ps o.ad with
 | none => rfl
 | some i =>
  have hil:=zq606 hx
  obtain ⟨p,hp⟩ : ∃ e,ps[i]? = some e:=⟨_,zc0 hil⟩
  obtain ⟨k1,k2,k3,k4,k5⟩:=zq488.1 (h.pool i p hp)
  have hin:=kp_at h.kin i
  have hik : i < ks.length:=by omega
  have r1 : zq697 (i : Int) (lenL ps) = true:=zq699 (by omega) (by unfold lenL;omega)
  simp only [Option.isNone,zq443]
  rw [show idxI (some i) = (i : Int) from rfl]
  simp only [r1,zq1400,zq657 hp,zq415,zq655]
  generalize hkp : ks.getD i [] = kp at *
  rw [zq247 (by omega),zq415]
  simp only
  cases hany : kp.any (fun x => decide (o.ad = x))
  rotate_left
  ·rfl
  simp only [zq443,zc16,if_false]
  by_cases h6 : kp.length = 6
  ·rw [decide_eq_true (show lenL kp = 6 by unfold lenL;omega),zq445,if_pos h6];rfl
  rw [decide_eq_false (show ¬ lenL kp = 6 by unfold lenL;omega),zq443,if_neg h6]
  have e0 : lenL (kp ++ [o.ad]) - 1 = (kp.length : Int):=by unfold lenL;simp
  simp only [zc41,e0,zq570,zq441]
  rw [zq1398 (zq1424 (by simp [lenL]) (zq993 _) (by unfold lenL;simp;omega)),zq1398 (zq1424 (zq993 _) (by simp [lenL]) (by unfold lenL;simp;omega)),zq1398 (zq693 (by omega) (by omega)),
   zq1373 hin (fun a ha => (k4 a ha).1) k5 k3 ps ks ls now ho.2.2.1 ca hany i,zq415]
  simp only [zc41]
  rw [zq1398 (zq1424 (by simp [lenL]) (zq993 _) (by unfold lenL;simp;omega))]
  simp only [r1,zq1400,zq657 hp,zq415]
  have e1 : (padL ([] : List Pf).length ([] : List (List Ad)) ++ ks) = ks:=by simp [padL]
  rw [e1]
  simp only [seti,zc40,zq1464 hp,zq1207 hkl,okS,noAd]
theorem zq1369 {ps : List Pf} {ks : List (List Ad)} {ls : List Ls} {now : Int} (h : StOk ps ks ls now) {o : Oq} (ho : o.In) (hf : formO o = 0) (hk : o.kind = 4) : zq119 (ps,ks) ls now o = some (zq556 ps ks ls now o.who):=by
 have hll:=h.llen
 unfold zq119 zq556
 rw [zq51 ho,zq415,hf,decide_eq_true rfl,zc10,zq443,decide_eq_false (show ¬ o.kind = 1 by omega),zq443,decide_eq_false (show ¬ o.kind = 2 by omega),zq443,decide_eq_false (show ¬ o.kind = 3 by omega),zq443,decide_eq_true hk,zq445,zq232 (by omega),zq415]
 simp only [zq694]
 cases hw : zq603 (whoP o.who) ls with
 | none => rfl
 | some i =>
  have hil:=zq606 hw
  obtain ⟨x,hx⟩ : ∃ e,ls[i]? = some e:=⟨_,zc0 hil⟩
  have r1 : zq697 (i : Int) (lenL ls) = true:=zq699 (by omega) (by unfold lenL;omega)
  have r2 : (decide ((0 : Int) ≤ (i : Int)) && decide ((i : Int) ≤ lenL ls)) = true:=by
   rw [decide_eq_true (show (0 : Int) ≤ (i : Int) by omega),decide_eq_true (show (i : Int) ≤ lenL ls by unfold lenL;omega)]
   rfl
  have r3 : (decide ((0 : Int) ≤ (i : Int) + 1) && decide ((i : Int) + 1 ≤ lenL ls) && decide (lenL ls ≤ lenL ls)) = true:=by
   rw [decide_eq_true (show (0 : Int) ≤ (i : Int) + 1 by omega),decide_eq_true (show (i : Int) + 1 ≤ lenL ls by unfold lenL;omega),decide_eq_true (Int.le_refl _)]
   rfl
  have r4 : i64ok ((i : Int) + 1) = true:=zq693 (by omega) (by omega)
  have s1 : subL ls 0 (i : Int) = ls.take i:=by simp [subL]
  have s2 : subL ls ((i : Int) + 1) (lenL ls) = ls.drop (i + 1):=by
   have e1 : ((i : Int) + 1).toNat = i + 1:=by omega
   have e2 : (lenL ls).toNat = ls.length:=by unfold lenL;omega
   simp [subL,e1,e2]
  simp only [Option.isNone,zq443]
  rw [show idxI (some i) = (i : Int) from rfl]
  have r5 : room (lenL ([] : List Ls)) (lenL (ls.take i)) = true:=zq1424 (by simp [lenL]) (zq993 _) (by unfold lenL;simp;omega)
  have r6 : room (lenL (ls.take i)) (lenL (ls.drop (i + 1))) = true:=zq1424 (zq993 _) (zq993 _) (by unfold lenL;simp;omega)
  simp only [r1,r2,r3,r4,r5,r6,s1,s2,zc41,zq1400,zq657 hx,zq415,zq570,zq441,hx]
  rfl
theorem zq1379 {ps : List Pf} {ks : List (List Ad)} {ls : List Ls} {now : Int} (h : StOk ps ks ls now) {o : Oq} (ho : o.In) (hf : formO o = 0) (hk : o.kind = 5) : zq119 (ps,ks) ls now o = some (zq563 ps ks ls now o.n):=by
 have hll:=h.llen
 unfold zq119 zq563
 rw [zq51 ho,zq415,hf,decide_eq_true rfl,zc10,zq443,decide_eq_false (show ¬ o.kind = 1 by omega),zq443,decide_eq_false (show ¬ o.kind = 2 by omega),zq443,decide_eq_false (show ¬ o.kind = 3 by omega),zq443,decide_eq_false (show ¬ o.kind = 4 by omega),zq443]
 by_cases hn : o.n < now
 ·rw [decide_eq_true hn,zq445,if_pos hn];rfl
 ·rw [decide_eq_false hn,zq443,if_neg hn,zq177 (by omega),zq415];rfl
end Go.Ma
namespace Go.Ma
open Go
theorem zq317 (a b : Ad) : adLt a b = decide (ordA a b < 0):=by
 rw [Bool.eq_iff_iff,zq313,decide_eq_true_iff,(zq1171 a b).1]
 unfold kV
 cases a.v6 <;> cases b.v6 <;> simp
theorem zq731 (x : Ls) : ∀ l : List Ls,insS x l = putAt l (posF x.ad l) x
 | [] => rfl
 | y :: r => by
  unfold insS putAt posF
  rw [List.takeWhile_cons,zq317]
  by_cases h : ordA y.ad x.ad < 0
  ·rw [if_pos (decide_eq_true h),if_pos (decide_eq_true h),zq731 x r]
   rfl
  ·rw [if_neg (by simpa using h),if_neg (by simpa using h)]
   rfl
theorem zq1234 {l : List Ls} (h : l.Pairwise leL) (a : Ad) {i : Nat} {x : Ls} (hx : l[i]? = some x) : ordA x.ad a < 0 ↔ i < posF a l:=by
 have:=zq1696 (q:=fun y : Ls => decide (ordA y.ad a < 0)) (l:=l) (h.imp fun {u v} huv hv => by
  simp only [decide_eq_true_eq] at hv ⊢
  unfold leL at huv
  rw [zq317,decide_eq_false_iff_not] at huv
  by_cases he : u.ad = v.ad
  ·rw [he];exact hv
  ·exact zq1172 (zq1173 huv (Ne.symm he)) hv) hx
 simpa [posF] using this
def zq1051 : List Ls → List Ls → List Ls
 | acc,[] => acc
 | acc,x :: r => zq1051 (insS x acc) r
theorem zq1053 : ∀ (acc m : List Ls),(zq1051 acc m).Perm (m ++ acc)
 | acc,[] => .refl _
 | acc,x :: r => (zq1053 (insS x acc) r).trans (((zq730 x acc).append_left r).trans List.perm_middle)
theorem zq1054 : ∀ (acc m : List Ls),acc.Pairwise leL → (zq1051 acc m).Pairwise leL
 | acc,[],h => h
 | acc,x :: r,h => zq1054 _ r (zq732 x acc h)
theorem zq1055 {acc m : List Ls} (h : acc.Pairwise leL) (ha : zq390 (m ++ acc) = true) : zq1051 acc m = sortL (m ++ acc):=zq1533 (zq1053 acc m) (zq1054 acc m h) ha
theorem zq1056 (acc : List Ls) {m : List Ls} {i : Nat} {x : Ls} (hx : m[i]? = some x) : zq1051 acc (m.take (i + 1)) = insS x (zq1051 acc (m.take i)):=by
 rw [zq1685 hx]
 generalize m.take i = l
 induction l generalizing acc with
 | nil => rfl
 | cons y r ih => exact ih _
theorem zq403 {l : List Ls} (hin : lsIn l) (h : l.Pairwise fun x y => rank x.ad < rank y.ad) : l.Pairwise leL:=by
 refine List.Pairwise.imp_of_mem (fun {u v} hu hv huv => ?_) h
 unfold leL
 rw [zq317,decide_eq_false_iff_not,(zq1181 (hin v hv).1 (hin u hu).1).1]
 omega
abbrev DM:=List (List Ad) × List Pf × List Ls × Unit × (Int × Unit) × (Ad × Unit) × (Int × Unit) × List Ls × (Ad × Unit) × List Pf × List Ls × List Ls × List (List Ad) × Unit
theorem zq1377 {acc : List Ls} (hin : lsIn acc) (hch : ∀ y ∈ acc,chkLs y = 0) (hpw : acc.Pairwise leL) (hlen : acc.length ≤ 1048576) {x : Ls} (hx : x.ad.In) (cx : chkA x.ad = 0) (hne : ∀ y ∈ acc,y.ad ≠ x.ad) (ps : List Pf) (ks : List (List Ad)) (ls m : List Ls) (now : Int) (a : Ad) (i : Nat) :
  loopN zq111 FUEL (((),(),(),(),(),((i : Int),()),((acc.length : Int),()),()),((ks,ps,ls,(),((0 : Int),()),((⟨false,0,0⟩ : Ad),()),(now,()),m,(a,()),([] : List Pf),([] : List Ls),acc ++ [x],([] : List (List Ad)),()) : DM)) =
   some (((),(),(),(),(),((i : Int),()),()),((ks,ps,ls,(),((0 : Int),()),((⟨false,0,0⟩ : Ad),()),(now,()),m,(a,()),([] : List Pf),([] : List Ls),insS x acc,([] : List (List Ad)),()) : DM)):=by
 rw [zq731]
 have hple:=zq1235 x.ad acc
 refine zq450 (step:=zq111) acc x (posF x.ad acc) hple (by omega) (fun k l => (((),(),(),(),(),((i : Int),()),((k : Int),()),()),((ks,ps,ls,(),((0 : Int),()),((⟨false,0,0⟩ : Ad),()),(now,()),m,(a,()),([] : List Pf),([] : List Ls),l,([] : List (List Ad)),()) : DM))) _ (fun rec k hk hkl => ?_) (fun rec => ?_)
 ·obtain ⟨y,hy⟩ : ∃ e,acc[k - 1]? = some e:=⟨_,zc0 (by omega)⟩
  have hym:=zc5 hy
  have hlt : ordA x.ad y.ad < 0:=zq1173 (fun h => by have:=(zq1234 hpw x.ad hy).1 h;omega) (hne y hym)
  have hL:=zq449 acc x k hkl
  have r1 : zq697 (k : Int) (lenL (acc.take k ++ x :: acc.drop k)) = true:=zq699 (by omega) (by unfold lenL;rw [hL];omega)
  have r2 : zq697 ((k : Int) - 1) (lenL (acc.take k ++ x :: acc.drop k)) = true:=zq699 (by omega) (by unfold lenL;rw [hL];omega)
  have r3 : i64ok ((k : Int) - 1) = true:=zq693 (by omega) (by omega)
  have ek : ((k : Int) - 1) = ((k - 1 : Nat) : Int):=by omega
  have g1 : geti (acc.take k ++ x :: acc.drop k) (k : Int) = some x:=zq657 (zq448 acc x k hkl)
  have g2 : geti (acc.take k ++ x :: acc.drop k) ((k : Int) - 1) = some y:=by rw [ek];exact zq657 (by rw [zq451 acc x k (k - 1) (by omega) hkl,hy])
  have hs : seti (seti (acc.take k ++ x :: acc.drop k) (k : Int) y) ((k : Int) - 1) x = acc.take (k - 1) ++ x :: acc.drop (k - 1):=by
   rw [ek]
   simp only [seti,zc40]
   exact zq452 acc x k y (by omega) hkl hy
  have r4 : zq697 ((k : Int) - 1) (lenL (seti (acc.take k ++ x :: acc.drop k) (k : Int) y)) = true:=zq699 (by omega) (by unfold lenL seti;rw [zc42,hL];omega)
  obtain ⟨z,hz⟩ : ∃ z,geti (seti (acc.take k ++ x :: acc.drop k) (k : Int) y) ((k : Int) - 1) = some z:=by
   rw [ek,zq658]
   exact ⟨_,zc0 (by simp only [seti,zc42,hL];omega)⟩
  simp only [zq111]
  simp only [r1,r2,r3,r4,zq1400,g1,g2,hz,zq415,zq570,zq441,zq153 hx (hin y hym).1 cx (zq481 (hch y hym)).1,zq359 hx (hin y hym).1]
  rw [decide_eq_true (show (k : Int) > 0 by omega),zq445,zq415,decide_eq_true hlt,zq445,hs,ek]
 ·simp only [zq111]
  have hL:=zq449 acc x (posF x.ad acc) hple
  by_cases h0 : posF x.ad acc = 0
  ·rw [decide_eq_false (show ¬ ((posF x.ad acc : Nat) : Int) > 0 by omega),zq443,zq415,zq443]
   rfl
  ·obtain ⟨y,hy⟩ : ∃ e,acc[posF x.ad acc - 1]? = some e:=⟨_,zc0 (by omega)⟩
   have hym:=zc5 hy
   have hlt : ¬ ordA x.ad y.ad < 0:=zq1169 ((zq1234 hpw x.ad hy).2 (by omega))
   have ek : (((posF x.ad acc : Nat) : Int) - 1) = ((posF x.ad acc - 1 : Nat) : Int):=by omega
   have r1 : zq697 ((posF x.ad acc : Nat) : Int) (lenL (acc.take (posF x.ad acc) ++ x :: acc.drop (posF x.ad acc))) = true:=zq699 (by omega) (by unfold lenL;rw [hL];omega)
   have r2 : zq697 (((posF x.ad acc : Nat) : Int) - 1) (lenL (acc.take (posF x.ad acc) ++ x :: acc.drop (posF x.ad acc))) = true:=zq699 (by omega) (by unfold lenL;rw [hL];omega)
   have r3 : i64ok (((posF x.ad acc : Nat) : Int) - 1) = true:=zq693 (by omega) (by omega)
   have g1 : geti (acc.take (posF x.ad acc) ++ x :: acc.drop (posF x.ad acc)) ((posF x.ad acc : Nat) : Int) = some x:=zq657 (zq448 acc x _ hple)
   have g2 : geti (acc.take (posF x.ad acc) ++ x :: acc.drop (posF x.ad acc)) (((posF x.ad acc : Nat) : Int) - 1) = some y:=by rw [ek];exact zq657 (by rw [zq451 acc x _ _ (by omega) hple,hy])
   simp only [r1,r2,r3,zq1400,g1,g2,zq415,zq153 hx (hin y hym).1 cx (zq481 (hch y hym)).1,zq359 hx (hin y hym).1]
   rw [decide_eq_true (show ((posF x.ad acc : Nat) : Int) > 0 by omega),zq445,zq415,decide_eq_false hlt,zq443]
   rfl
theorem zq1376 {m acc : List Ls} (hm : lsIn m) (cm : ∀ y ∈ m,chkLs y = 0) (hacc : lsIn acc) (cacc : ∀ y ∈ acc,chkLs y = 0) (hpw : acc.Pairwise leL) (hap : (m ++ acc).Pairwise fun x y => x.ad ≠ y.ad) (hlen : m.length + acc.length ≤ 1000) (ps : List Pf) (ks : List (List Ad)) (ls : List Ls) (now : Int) (a : Ad) :
  loopN zq108 FUEL (((),(),(),(),(),(0,()),()),((ks,ps,ls,(),((0 : Int),()),((⟨false,0,0⟩ : Ad),()),(now,()),m,(a,()),([] : List Pf),([] : List Ls),acc,([] : List (List Ad)),()) : DM)) =
   some (((),(),(),(),()),(ks,ps,ls,(),((0 : Int),()),((⟨false,0,0⟩ : Ad),()),(now,()),(a,()),([] : List Pf),([] : List Ls),zq1051 acc m,([] : List (List Ad)),())):=by
 have hmem : ∀ i,∀ y ∈ zq1051 acc (m.take i),y ∈ m.take i ∨ y ∈ acc:=fun i y hy => zc36.1 ((zq1053 acc (m.take i)).mem_iff.1 hy)
 have:=zq1015 (step:=zq108) (fun i => (((),(),(),(),(),((i : Int),()),()),((ks,ps,ls,(),((0 : Int),()),((⟨false,0,0⟩ : Ad),()),(now,()),m,(a,()),([] : List Pf),([] : List Ls),zq1051 acc (m.take i),([] : List (List Ad)),()) : DM))) m.length
  (fun _ => some (((),(),(),(),()),(ks,ps,ls,(),((0 : Int),()),((⟨false,0,0⟩ : Ad),()),(now,()),(a,()),([] : List Pf),([] : List Ls),zq1051 acc m,([] : List (List Ad)),()))) (fun rec i hi hr => ?_) (fun rec => ?_) FUEL 0 (Nat.zero_le _) (zq651 (by omega))
 ·rw [show ((0 : Nat) : Int) = 0 from rfl,List.take_zero] at this
  exact this
 ·obtain ⟨x,hx⟩ : ∃ e,m[i]? = some e:=⟨_,zc0 hi⟩
  have hxm:=zc5 hx
  have hin : lsIn (zq1051 acc (m.take i)):=fun y hy => by
   rcases hmem i y hy with h | h
   ·exact hm y (List.mem_of_mem_take h)
   ·exact hacc y h
  have hch : ∀ y ∈ zq1051 acc (m.take i),chkLs y = 0:=fun y hy => by
   rcases hmem i y hy with h | h
   ·exact cm y (List.mem_of_mem_take h)
   ·exact cacc y h
  have hne : ∀ y ∈ zq1051 acc (m.take i),y.ad ≠ x.ad:=fun y hy => by
   obtain ⟨p1,p2,p3⟩:=List.pairwise_append.1 hap
   rcases hmem i y hy with h | h
   ·obtain ⟨j,hj⟩:=zc30.1 h
    rw [zc14] at hj
    split at hj
    ·rename_i hji
     rw [List.pairwise_iff_getElem] at p1
     obtain ⟨j1,j2⟩:=zc1.1 hj
     have:=p1 j i j1 hi hji
     rwa [j2,(zc1.1 hx).2] at this
    ·cases hj
   ·exact Ne.symm (p3 x hxm y h)
  have hml : (zq1051 acc (m.take i)).length = i + acc.length:=by
   rw [(zq1053 acc (m.take i)).length_eq]
   simp;omega
  have e0 : lenL (zq1051 acc (m.take i) ++ [x]) - 1 = ((zq1051 acc (m.take i)).length : Int):=by unfold lenL;simp
  simp only [zq108]
  rw [decide_eq_true (show (i : Int) < lenL m by unfold lenL;omega),zq445,zq1398 (zq699 (by omega) (by unfold lenL;omega)),zq657 hx,zq415,zq1398 (zq1424 (zq993 _) (by simp [lenL]) (by unfold lenL;simp;omega)),e0,zq1398 (zq693 (by omega) (by omega)),
   zq1377 hin hch (zq1054 acc _ hpw) (by omega) (hm x hxm).1 (zq481 (cm x hxm)).1 hne ps ks ls m now a i,zq415]
  simp only
  rw [show ((i : Int) + 1) = ((i + 1 : Nat) : Int) by omega,zq1398 (zq693 (by omega) (by omega)),← zq1056 acc hx,hr]
 ·simp only [zq108]
  rw [decide_eq_false (show ¬ (m.length : Int) < lenL m by unfold lenL;omega),zq443,List.take_length]
abbrev DO:=List (List Ad) × List Pf × List Ls × Unit × (Int × Unit) × (Oq × Unit) × (Int × Unit) × (Ad × Unit) × (Int × Unit) × (Bool × Int × Int × Int × Int × Unit) × List Ls × List Pf × List Ls × List (List Ad) × Unit
theorem zq1374 {p : Pf} (hp : p.In) (cp : chkP p = 0) (ps : List Pf) (ks : List (List Ad)) {ls : List Ls} (hl : lsIn ls) (hc : ∀ x ∈ ls,chkLs x = 0) (h20 : ls.length ≤ 20) (now : Int) (o : Oq) (k : Int) :
  loopN zq102 FUEL (((),(),(),(),(),(),(),(0,()),()),((ks,ps,ls,(),(now,()),(o,()),((0 : Int),()),((⟨false,0,0⟩ : Ad),()),(now,()),(p.ad.v6,p.ad.hi,p.ad.lo,p.bits,k,()),([] : List Ls),([] : List Pf),([] : List Ls),([] : List (List Ad)),()) : DO)) =
   some (((),(),(),(),(),(),(),()),((ks,ps,ls,(),(now,()),(o,()),((0 : Int),()),((⟨false,0,0⟩ : Ad),()),(now,()),(p.ad.v6,p.ad.hi,p.ad.lo,p.bits,k,()),ownL p ls,([] : List Pf),([] : List Ls),([] : List (List Ad)),()) : DO)):=by
 refine zq635 (step:=zq102) ls (fun x => holds p x.ad) (fun i b => (((),(),(),(),(),(),(),((i : Int),()),()),((ks,ps,ls,(),(now,()),(o,()),((0 : Int),()),((⟨false,0,0⟩ : Ad),()),(now,()),(p.ad.v6,p.ad.hi,p.ad.lo,p.bits,k,()),b,([] : List Pf),([] : List Ls),([] : List (List Ad)),()) : DO)))
  (fun b => (((),(),(),(),(),(),(),()),((ks,ps,ls,(),(now,()),(o,()),((0 : Int),()),((⟨false,0,0⟩ : Ad),()),(now,()),(p.ad.v6,p.ad.hi,p.ad.lo,p.bits,k,()),b,([] : List Pf),([] : List Ls),([] : List (List Ad)),()) : DO))) (by omega) (fun rec i x b hx hi hb => ?_) (fun rec b => ?_)
 ·have hxm:=zc5 hx
  have r1 : zq697 (i : Int) (lenL ls) = true:=zq699 (by omega) (by unfold lenL;omega)
  simp only [zq102]
  rw [decide_eq_true (show (i : Int) < lenL ls by unfold lenL;omega),zq445]
  simp only [r1,zq1400,zq657 hx,zq415]
  rw [show (⟨(⟨p.ad.v6,p.ad.hi,p.ad.lo⟩ : Ad),p.bits⟩ : Pf) = p from rfl,zq138 hp cp (hl x hxm).1 (zq481 (hc x hxm)).1,zq415,show ((i : Int) + 1) = ((i + 1 : Nat) : Int) by omega]
  cases holds p x.ad
  ·rw [zq443,zq1398 (zq693 (by omega) (by omega))]
   simp
  ·rw [zq445,zq1398 (zq1424 (zq993 _) (zq993 _) (by unfold lenL;simp;omega)),zq1398 (zq693 (by omega) (by omega))]
   simp
 ·simp only [zq102]
  rw [decide_eq_false (show ¬ (ls.length : Int) < lenL ls by unfold lenL;omega),zq443]
abbrev DQ:=List (List Ad) × List Pf × List Ls × Unit × (Int × Unit) × (Int × Unit) × (Ad × Unit) × (Int × Unit) × (Bool × Int × Int × Int × Int × Unit) × List Ls × (Ad × Unit) × List Pf × List Ls × List Ls × List (List Ad) × Unit
theorem zq1375 {p : Pf} (hp : p.In) (cp : chkP p = 0) (ps : List Pf) (ks : List (List Ad)) {ls : List Ls} (hl : lsIn ls) (hc : ∀ x ∈ ls,chkLs x = 0) (h20 : ls.length ≤ 20) (now : Int) (k : Int) (m : List Ls) (a : Ad) :
  loopN zq105 FUEL (((),(),(),(),(),(),(),(0,()),()),((ks,ps,ls,(),(now,()),((0 : Int),()),((⟨false,0,0⟩ : Ad),()),(now,()),(p.ad.v6,p.ad.hi,p.ad.lo,p.bits,k,()),m,(a,()),([] : List Pf),([] : List Ls),([] : List Ls),([] : List (List Ad)),()) : DQ)) =
   some (((),(),(),(),(),()),((ks,ps,ls,(),((0 : Int),()),((⟨false,0,0⟩ : Ad),()),(now,()),m,(a,()),([] : List Pf),([] : List Ls),othL p ls,([] : List (List Ad)),()) : DM)):=by
 refine zq635 (step:=zq105) ls (fun x => !holds p x.ad) (fun i b => (((),(),(),(),(),(),(),((i : Int),()),()),((ks,ps,ls,(),(now,()),((0 : Int),()),((⟨false,0,0⟩ : Ad),()),(now,()),(p.ad.v6,p.ad.hi,p.ad.lo,p.bits,k,()),m,(a,()),([] : List Pf),([] : List Ls),b,([] : List (List Ad)),()) : DQ)))
  (fun b => (((),(),(),(),(),()),((ks,ps,ls,(),((0 : Int),()),((⟨false,0,0⟩ : Ad),()),(now,()),m,(a,()),([] : List Pf),([] : List Ls),b,([] : List (List Ad)),()) : DM))) (by omega) (fun rec i x b hx hi hb => ?_) (fun rec b => ?_)
 ·have hxm:=zc5 hx
  have r1 : zq697 (i : Int) (lenL ls) = true:=zq699 (by omega) (by unfold lenL;omega)
  simp only [zq105]
  rw [decide_eq_true (show (i : Int) < lenL ls by unfold lenL;omega),zq445]
  simp only [r1,zq1400,zq657 hx,zq415]
  rw [show (⟨(⟨p.ad.v6,p.ad.hi,p.ad.lo⟩ : Ad),p.bits⟩ : Pf) = p from rfl,zq138 hp cp (hl x hxm).1 (zq481 (hc x hxm)).1,zq415,show ((i : Int) + 1) = ((i + 1 : Nat) : Int) by omega]
  cases holds p x.ad
  ·rw [zc19,zq445,zq1398 (zq1424 (zq993 _) (zq993 _) (by unfold lenL;simp;omega)),zq1398 (zq693 (by omega) (by omega))]
   simp
  ·rw [zc10,zq443,zq1398 (zq693 (by omega) (by omega))]
   simp
 ·simp only [zq105]
  rw [decide_eq_false (show ¬ (ls.length : Int) < lenL ls by unfold lenL;omega),zq443]
theorem zq1185 {p : Pf} {ls : List Ls} (h : lsIn ls) : lsIn (othL p ls):=fun x hx => h x (List.mem_filter.1 hx).1
theorem zq1370 {ps : List Pf} {ks : List (List Ad)} {ls : List Ls} {now : Int} (h : StOk ps ks ls now) {o : Oq} (ho : o.In) (hf : formO o = 0) (hk : o.kind = 3) : zq119 (ps,ks) ls now o = some (zq557 ps ks ls now o.who o.of_ o.n):=by
 obtain ⟨g1,g2⟩:=zq640 hf hk
 have hw:=zq645 hf (.inl hk)
 obtain ⟨o1,o2⟩:=zq413.1 g1
 obtain ⟨n1,n2⟩:=zq413.1 g2
 obtain ⟨t1,t2⟩:=zq413.1 h.time
 have hpl:=h.plen
 have hkl:=h.klen
 have hll:=h.llen
 have hlc:=h.lchk
 obtain ⟨k,hk'⟩ : ∃ k : Nat,o.of_ = (k : Int):=⟨o.of_.toNat,by omega⟩
 unfold zq119 zq557
 rw [zq51 ho,zq415,hf,decide_eq_true rfl,zc10,zq443,decide_eq_false (show ¬ o.kind = 1 by omega),zq443,decide_eq_false (show ¬ o.kind = 2 by omega),zq443,decide_eq_true hk,zq445]
 simp only
 rw [hk',zc40]
 by_cases hkp : k < ps.length
 rotate_left
 ·rw [decide_eq_true (show (k : Int) ≥ lenL ps by unfold lenL;omega),zq445,zc22 (by omega)];rfl
 obtain ⟨p,hp⟩ : ∃ e,ps[k]? = some e:=⟨_,zc0 hkp⟩
 obtain ⟨pin,cp⟩:=h.pin p (zc5 hp)
 rw [decide_eq_false (show ¬ (k : Int) ≥ lenL ps by unfold lenL;omega),zq443,zq1398 (zq699 (by omega) (by unfold lenL;omega)),zq657 hp,zq415,zq232 (by omega),zq415,hp]
 simp only
 have haw : (br (decide (idxI (zq603 (whoP o.who) ls) ≥ 0)) (req (zq697 (idxI (zq603 (whoP o.who) ls)) (lenL ls)) (req (zq697 (idxI (zq603 (whoP o.who) ls)) (lenL ls)) ((geti ls (idxI (zq603 (whoP o.who) ls))).bind fun p5 => (zq140 p p5.ad).bind fun y6 => some (!y6.1)))) (some false)) = some (awayB p ls o.who):=by
  unfold awayB
  rw [zq695]
  cases hw : zq603 (whoP o.who) ls with
  | none => rfl
  | some i =>
   have hil:=zq606 hw
   obtain ⟨x,hx⟩ : ∃ e,ls[i]? = some e:=⟨_,zc0 hil⟩
   have hxm:=zc5 hx
   have r1 : zq697 (i : Int) (lenL ls) = true:=zq699 (by omega) (by unfold lenL;omega)
   simp only [idxI,hx,Option.isSome]
   rw [zq445,zq1398 r1,zq1398 r1,zq657 hx,zq415,zq138 pin cp (h.lin x hxm).1 (zq481 (hlc x hxm)).1,zq415]
 rw [haw,zq415]
 cases awayB p ls o.who
 rotate_left
 ·rfl
 simp only [zq443,zc16,if_false]
 rw [zq1374 pin cp ps ks h.lin hlc hll now o (k : Int),zq415]
 simp only [zq655]
 have hok:=zq483 (zq1201 h hp)
 have hrw:=zq132 (p:=p) pin (kp:=ks.getD k []) (zq1200 h p).ins (now:=now) (ttl:=o.n) hok.1 hok.2.1 (zq693 (by omega) (by omega)) o.who
 rw [show (⟨(⟨p.ad.v6,p.ad.hi,p.ad.lo⟩ : Ad),p.bits⟩ : Pf) = p from rfl,hrw,zq415]
 show br (!(zq676 p (ks.getD k []) ls o.who now o.n).2.2.1) _ _ = _
 cases hr : (zq676 p (ks.getD k []) ls o.who now o.n).2.2.1
 ·rfl
 have gv:=zq677 h hp ho.2.2.2.1 hw g2 (by rw [hr];simp)
 unfold zq676 at gv ⊢
 simp only [zc10,zq443,Bool.true_eq_false,if_false]
 have hml:=gv.good.len pin cp (zq489 (h.pool k p hp)).2.1
 have hol : (othL p ls).length ≤ 20:=Nat.le_trans (List.length_filter_le _ _) hll
 generalize hR : rawOf p (ks.getD k []) (live (ownL p ls) now) o.who (now + o.n) = r at *
 have hap:=zq1057 (zq405 gv.good.asc) (zq405 (zq1183 h p)) gv.good.held zq1184
 rw [zq1375 pin cp ps ks h.lin hlc hll now (k : Int) r.1 r.2.1,zq415]
 simp only
 rw [zq1376 gv.good.ins gv.good.chk (zq1185 h.lin) (fun y hy => hlc y (List.mem_filter.1 hy).1) (zq403 (zq1185 h.lin) (zq1183 h p)) hap (by omega) ps ks ls now r.2.1,zq415]
 simp only
 rw [zq1055 (zq403 (zq1185 h.lin) (zq1183 h p)) (zq393 hap)]
 have hsl : (sortL (r.1 ++ othL p ls)).length = r.1.length + (othL p ls).length:=by rw [(zq1528 _).length_eq];simp
 by_cases h20 : r.1.length + (othL p ls).length > 20
 ·rw [decide_eq_true (show lenL (sortL (r.1 ++ othL p ls)) > 20 by unfold lenL;omega),zq445,if_pos h20];rfl
 ·rw [decide_eq_false (show ¬ lenL (sortL (r.1 ++ othL p ls)) > 20 by unfold lenL;omega),zq443,if_neg h20]
  rfl
theorem zq117 {ps : List Pf} {ks : List (List Ad)} {ls : List Ls} {now : Int} (h : StOk ps ks ls now) {o : Oq} (ho : o.In) : zq119 (ps,ks) ls now o = some (doOf ps ks ls now o):=by
 unfold doOf
 by_cases hf : formO o = 0
 rotate_left
 ·rw [if_pos hf]
  unfold zq119
  rw [zq51 ho,zq415,decide_eq_false hf,zc19,zq445]
  rfl
 rw [if_neg (fun hh => hh hf)]
 have hk:=zq642 hf
 by_cases k1 : o.kind = 1
 ·rw [if_pos k1,zq1378 h ho hf k1]
 by_cases k2 : o.kind = 2
 ·rw [if_neg k1,if_pos k2,zq1371 h ho hf k2]
 by_cases k3 : o.kind = 3
 ·rw [if_neg k1,if_neg k2,if_pos k3,zq1370 h ho hf k3]
 by_cases k4 : o.kind = 4
 ·rw [if_neg k1,if_neg k2,if_neg k3,if_pos k4,zq1369 h ho hf k4]
 ·rw [if_neg k1,if_neg k2,if_neg k3,if_neg k4,zq1379 h ho hf (by omega)]
end Go.Ma
namespace Go.Ma
open Go
theorem zq206 {l : List Ad} (hl : l.length < 9223372036854775808) : zq207 l l = some (true,()):=by
 unfold zq207
 rw [decide_eq_true rfl,zc10,zq443]
 have:=zq1015 (step:=zq199) (fun i => (((),(),((i : Int),()),()),(l,l,()))) l.length (fun _ => some (Sum.inr ((),(l,l,())))) (fun rec i hi hr => ?_) (fun rec => ?_) FUEL 0 (Nat.zero_le _) (zq651 (by omega))
 ·rw [show ((0 : Nat) : Int) = 0 from rfl] at this
  rw [this];rfl
 ·obtain ⟨x,hx⟩ : ∃ e,l[i]? = some e:=⟨_,zc0 hi⟩
  have r1 : zq697 (i : Int) (lenL l) = true:=zq699 (by omega) (by unfold lenL;omega)
  simp only [zq199]
  simp only [r1,zq1400,zq657 hx,zq415,zq588]
  rw [decide_eq_true (show (i : Int) < lenL l by unfold lenL;omega),zq445]
  simp only [decide_true,zc10,zq443]
  rw [show ((i : Int) + 1) = ((i + 1 : Nat) : Int) by omega,zq1398 (zq693 (by omega) (by omega)),hr]
 ·simp only [zq199]
  rw [decide_eq_false (show ¬ (l.length : Int) < lenL l by unfold lenL;omega),zq443]
def fitS (ps : List Pf) (ks : List (List Ad)) (ls : List Ls) : Prop:=ps.length < 9223372036854775808 ∧ (∀ i,(ks.getD i []).length < 9223372036854775808) ∧ ls.length < 9223372036854775808
theorem zq224 {ps : List Pf} {ks : List (List Ad)} {ls : List Ls} (h : fitS ps ks ls) (now : Int) : zq225 (ps,ks) ls now (ps,ks) ls now = some (true,()):=by
 obtain ⟨h1,h2,h3⟩:=h
 unfold zq225
 rw [zq214 h3]
 simp only [decide_true,zc10,zq443,zq415]
 have:=zq1015 (step:=zq217) (fun i => (((),(),((i : Int),()),()),(ks,ps,ls,ks,ps,ls,(now,()),(now,()),()))) ps.length (fun _ => some (Sum.inr ((),(ks,ps,ls,ks,ps,ls,())))) (fun rec i hi hr => ?_) (fun rec => ?_) FUEL 0 (Nat.zero_le _) (zq651 (by omega))
 ·rw [show ((0 : Nat) : Int) = 0 from rfl] at this
  rw [this];rfl
 ·obtain ⟨x,hx⟩ : ∃ e,ps[i]? = some e:=⟨_,zc0 hi⟩
  have r1 : zq697 (i : Int) (lenL ps) = true:=zq699 (by omega) (by unfold lenL;omega)
  simp only [zq217]
  simp only [r1,zq1400,zq657 hx,zq415,zq595,zq655,zq206 (h2 i)]
  rw [decide_eq_true (show (i : Int) < lenL ps by unfold lenL;omega),zq445]
  simp only [decide_true,zc10,zq443,zq415]
  rw [show ((i : Int) + 1) = ((i + 1 : Nat) : Int) by omega,zq1398 (zq693 (by omega) (by omega)),hr]
 ·simp only [zq217]
  rw [decide_eq_false (show ¬ (ps.length : Int) < lenL ps by unfold lenL;omega),zq443]
theorem zq615 : fitS ([] : List Pf) ([] : List (List Ad)) ([] : List Ls):=⟨by decide,fun i => by simp,by decide⟩
theorem zq854 {ps : List Pf} {ks : List (List Ad)} {ls : List Ls} (h : fitS ps ks ls) (now e : Int) (ps' : List Pf) (ks' : List (List Ad)) (ls' : List Ls) (now' : Int)
  (hs : (((ps,ks),ls,now,()) : StV) = if e = 0 then ((ps',ks'),ls',now',()) else noSt) : zq856 (ps,ks) ls now e e (ps',ks') ls' now' = some (true,()):=by
 unfold zq856
 by_cases h0 : e = 0
 ·rw [if_pos h0] at hs
  simp only [zc11] at hs
  obtain ⟨⟨rfl,rfl⟩,rfl,rfl,_⟩:=hs
  rw [decide_eq_true h0,zc10,zq443,decide_eq_true rfl,zq445,zq224 h]
  rfl
 ·rw [if_neg h0] at hs
  unfold noSt at hs
  simp only [zc11] at hs
  obtain ⟨⟨rfl,rfl⟩,rfl,rfl,_⟩:=hs
  rw [decide_eq_false h0,zc19,zq445,decide_eq_true rfl,zq445,zq224 zq615]
  rfl
def sop1 : Oq:=⟨1,⟨⟨false,0,8⟩,30⟩,⟨false,0,0⟩,ByteArray.empty,0,0⟩
def sop2 : Oq:=⟨2,⟨⟨false,0,0⟩,0⟩,⟨false,0,8⟩,ByteArray.empty,0,0⟩
def sop3 : Oq:=⟨3,⟨⟨false,0,0⟩,0⟩,⟨false,0,0⟩,⟨#[120]⟩,0,10⟩
def sop4 : Oq:=⟨4,⟨⟨false,0,0⟩,0⟩,⟨false,0,0⟩,⟨#[120]⟩,0,0⟩
def sop5 : Oq:=⟨5,⟨⟨false,0,0⟩,0⟩,⟨false,0,0⟩,ByteArray.empty,0,11⟩
theorem zq1524 {k : Int} (hk : i64In k) {p : Pf} (hp : p.In) {a : Ad} (ha : a.In) {w : ByteArray} (hw : strIn w) {f n : Int} (hf : i64In f) (hn : i64In n) : (⟨k,p,a,w,f,n⟩ : Oq).In:=⟨hk,hp,ha,hw,hf,hn⟩
theorem zq1670 : strIn ByteArray.empty:=by unfold strIn maxLen;decide
theorem zq1088 : (⟨false,0,0⟩ : Ad).In:=⟨⟨by decide,by decide⟩,by decide,by decide⟩
theorem zq1089 : (⟨⟨false,0,0⟩,0⟩ : Pf).In:=⟨zq1088,by decide,by decide⟩
theorem zq1519 : sop1.In:=zq1524 ⟨by decide,by decide⟩ zq1343 zq1088 zq1670 ⟨by decide,by decide⟩ ⟨by decide,by decide⟩
theorem zq1520 : sop2.In:=zq1524 ⟨by decide,by decide⟩ zq1089 ⟨⟨by decide,by decide⟩,by decide,by decide⟩ zq1670 ⟨by decide,by decide⟩ ⟨by decide,by decide⟩
theorem zq1521 : sop3.In:=zq1524 ⟨by decide,by decide⟩ zq1089 zq1088 wx_in ⟨by decide,by decide⟩ ⟨by decide,by decide⟩
theorem zq1522 : sop4.In:=zq1524 ⟨by decide,by decide⟩ zq1089 zq1088 wx_in ⟨by decide,by decide⟩ ⟨by decide,by decide⟩
theorem zq1523 : sop5.In:=zq1524 ⟨by decide,by decide⟩ zq1089 zq1088 zq1670 ⟨by decide,by decide⟩ ⟨by decide,by decide⟩
theorem zq1142 : formO sop1 = 0 ∧ formO sop2 = 0 ∧ formO sop3 = 0 ∧ formO sop4 = 0 ∧ formO sop5 = 0:=by
 refine ⟨?_,?_,?_,?_,?_⟩ <;> (unfold formO zq597;simp only [zq1674,zq595,zq588];decide +kernel)
def sP : List Pf:=[⟨⟨false,0,8⟩,30⟩]
def sK : List (List Ad):=[[⟨false,0,8⟩]]
def sL : List Ls:=[⟨⟨false,0,9⟩,⟨#[120]⟩,10⟩]
theorem sP_in : ∀ p ∈ sP,p.In:=fun p hp => by
 simp only [sP,zc37] at hp
 subst hp
 exact zq1343
theorem sK_in : kpIn sK:=fun k hk => by
 simp only [sK,zc37] at hk
 subst hk
 exact zq762
theorem sK0_in : kpIn [[]]:=fun k hk => by
 simp only [zc37] at hk
 subst hk
 exact fun a ha => by cases ha
theorem sL_in : lsIn sL:=fun x hx => by
 simp only [sL,zc37] at hx
 subst hx
 exact ⟨⟨⟨by decide,by decide⟩,by decide,by decide⟩,wx_in,by decide,by decide⟩
theorem zq1543 {ps : List Pf} {ks : List (List Ad)} {ls : List Ls} {now : Int} {o : Oq} (h : chkS ps ks ls now = 0) (hf : formO o = 0) {y : DoV}
  (hy : (if o.kind = 1 then zq562 ps ks ls now o.pf else if o.kind = 2 then zq558 ps ks ls now o.ad else if o.kind = 3 then zq557 ps ks ls now o.who o.of_ o.n else if o.kind = 4 then zq556 ps ks ls now o.who else zq563 ps ks ls now o.n) = y) : stDo ps ks ls now o = y:=by
 unfold stDo doOf
 rw [if_neg (fun hh => hh h),if_neg (fun hh => hh hf)]
 exact hy
theorem sc0 : chkS [] [] [] 0 = 0:=by decide +kernel
theorem sc1 : chkS sP [[]] [] 0 = 0:=by decide +kernel
theorem sc2 : chkS sP sK [] 0 = 0:=by decide +kernel
theorem sc3 : chkS sP sK sL 0 = 0:=by decide +kernel
theorem sd1 : stDo [] [] [] 0 sop1 = okS sP [[]] [] 0 noAd:=zq1543 sc0 zq1142.1 (by decide +kernel)
theorem sd2 : stDo sP [[]] [] 0 sop2 = okS sP sK [] 0 noAd:=zq1543 sc1 zq1142.2.1 (by decide +kernel)
theorem sd3 : stDo sP sK [] 0 sop3 = okS sP sK sL 0 ⟨false,0,9⟩:=zq1543 sc2 zq1142.2.2.1 (by decide +kernel)
theorem sd4 : stDo sP sK sL 0 sop4 = okS sP sK [] 0 ⟨false,0,9⟩:=zq1543 sc3 zq1142.2.2.2.1 (by decide +kernel)
theorem sd5 : stDo sP sK sL 0 sop5 = okS sP sK [] 11 noAd:=zq1543 sc3 zq1142.2.2.2.2 (by decide +kernel)
theorem zq1215 : ∀ p ∈ ([] : List Pf),p.In:=fun p hp => by cases hp
theorem zq769 : kpIn ([] : List (List Ad)):=fun p hp => by cases hp
theorem zq843 : zq845 = some ([sop1,sop2,sop3],()):=rfl
def doMk (l : List Oq) (i : Nat) (y : DoV) : (((Unit) × (Unit) × (Unit) × (Unit) × (Unit) × (Int × Unit) × Unit) × (List Oq × (Int × Unit) × (Ad × Unit) × (Int × Unit) × (Ad × Unit) × List Pf × List Ls × List Pf × List Ls × List (List Ad) × List (List Ad) × Unit)) :=
 (((),(),(),(),(),((i : Int),()),()),(l,(0,()),((⟨false,0,0⟩ : Ad),()),(y.1.2.2.1,()),(y.2.1,()),([] : List Pf),([] : List Ls),y.1.1.1,y.1.2.1,([] : List (List Ad)),y.1.1.2,()))
theorem zq564 {l : List Oq} {i : Nat} {o : Oq} (ho : l[i]? = some o) (hlen : l.length ≤ 1000) (rec) (y : DoV) {ps : List Pf} {ks : List (List Ad)} {ls : List Ls} {now : Int} {a : Ad} (e : zq1571 y.1.1 y.1.2.1 y.1.2.2.1 o = some (okS ps ks ls now a)) : zq816 rec (doMk l i y) = rec (doMk l (i + 1) (okS ps ks ls now a)):=by
 have hi:=(zc1.1 ho).1
 have e' : zq1571 (y.1.1.1,y.1.1.2) y.1.2.1 y.1.2.2.1 o = some (okS ps ks ls now a):=e
 unfold doMk
 simp only [zq816]
 rw [decide_eq_true (show (i : Int) < lenL l by unfold lenL;omega),zq445,zq1398 (zq699 (by omega) (by unfold lenL;omega)),zq657 ho,zq415,e']
 simp only [zq415,zq570,zq441]
 rw [decide_eq_true (show (okS ps ks ls now a).2.2.1 = 0 from rfl),zc10,zq443,zq1398 (zq693 (by omega) (by omega))]
 rfl
theorem do_end (l : List Oq) (rec) (y : DoV) : zq816 rec (doMk l l.length y) = some (Sum.inr (((),(),(),(),()),(doMk l l.length y).2)):=by
 unfold doMk
 simp only [zq816]
 rw [decide_eq_false (show ¬ (l.length : Int) < lenL l by unfold lenL;omega),zq443]
theorem zq822 : zq824 [sop1,sop2,sop3] = some (okS sP sK sL 0 ⟨false,0,9⟩):=by
 unfold zq824
 have e1:=zq1569 zq1215 zq769 zq1024 rfl 0 zq1519
 have e2:=zq1569 sP_in sK0_in zq1024 rfl 0 zq1520
 have e3:=zq1569 sP_in sK_in zq1024 rfl 0 zq1521
 rw [sd1] at e1
 rw [sd2] at e2
 rw [sd3] at e3
 obtain ⟨n,hn⟩ : ∃ n,FUEL = n + 1 + 1 + 1 + 1:=by
  have:=zq651 (n:=100) (by omega)
  exact ⟨FUEL - 4,by omega⟩
 have hl : loopN zq816 FUEL (doMk [sop1,sop2,sop3] 0 (okS [] [] [] 0 noAd)) = some (Sum.inr (((),(),(),(),()),(doMk [sop1,sop2,sop3] 3 (okS sP sK sL 0 ⟨false,0,9⟩)).2)):=by
  rw [hn,zq1010,zq564 (o:=sop1) rfl (by decide) _ _ e1,zq1010,zq564 (o:=sop2) rfl (by decide) _ _ e2,zq1010,zq564 (o:=sop3) rfl (by decide) _ _ e3,zq1010]
  exact do_end [sop1,sop2,sop3] _ _
 have e0 : (loopN zq816 FUEL (doMk [sop1,sop2,sop3] 0 (okS [] [] [] 0 noAd))).bind (fun y1 => sumC y1 (fun y2 => some (((y2.2.2.2.2.1,y2.2.2.2.2.2.2.1),y2.2.2.2.2.2.1,y2.2.2.1.1,()),y2.2.2.2.1.1,y2.1.2.2.1.1,())) (fun y3 => some (((y3.2.2.2.2.2.2.2.2.1,y3.2.2.2.2.2.2.2.2.2.2.2.1),y3.2.2.2.2.2.2.2.2.2.1,y3.2.2.2.2.1.1,()),y3.2.2.2.2.2.1.1,0,()))) = some (okS sP sK sL 0 ⟨false,0,9⟩):=by
  rw [hl,zq415];rfl
 exact e0
theorem zq1550 : zq850 = some (true,()):=by
 unfold zq850
 have e4:=zq1569 sP_in sK_in sL_in rfl 0 zq1522
 have e5:=zq1569 sP_in sK_in sL_in rfl 0 zq1523
 have e6:=zq1563 sP_in sK_in sL_in 0
 have e7:=zq1575 zq1519
 rw [sd4] at e4
 rw [sd5] at e5
 rw [sc3] at e6
 rw [zq1142.1] at e7
 rw [zq843,zq415]
 simp only
 rw [zq822,zq415]
 show (zq1571 (sP,sK) sL 0 sop4).bind _ = _
 rw [e4,zq415]
 show (zq1571 (sP,sK) sL 0 sop5).bind _ = _
 rw [e5,zq415]
 show (zq1565 (sP,sK) sL 0).bind _ = _
 rw [e6,zq415]
 simp only [decide_true,zq445,zq415]
 rw [zq1398 (show zq697 0 (lenL [sop1,sop2,sop3]) = true by decide),show geti [sop1,sop2,sop3] 0 = some sop1 from rfl,zq415,e7,zq415]
 rfl
theorem fit_of {ps : List Pf} {ks : List (List Ad)} {ls : List Ls} (h : ps.length < 9223372036854775808) (hk : ∀ k ∈ ks,k.length < 9223372036854775808) (hl : ls.length < 9223372036854775808) : fitS ps ks ls:=by
 refine ⟨h,fun i => ?_,hl⟩
 rw [zc3]
 cases hi : ks[i]? with
 | none => simp
 | some k => exact hk k (zc5 hi)
theorem zq559 {ps : List Pf} {ks : List (List Ad)} {ls : List Ls} {now : Int} {o : Oq} : (doOf ps ks ls now o).2.2.1 ≠ 0 → doOf ps ks ls now o = errS (doOf ps ks ls now o).2.2.1:=by
 have he : ∀ e : Int,errS e = errS (errS e).2.2.1:=fun _ => rfl
 have ho : ∀ (ps : List Pf) (ks : List (List Ad)) (ls : List Ls) (now : Int) (a : Ad),(okS ps ks ls now a).2.2.1 ≠ 0 → okS ps ks ls now a = errS (okS ps ks ls now a).2.2.1:=fun _ _ _ _ _ h => absurd rfl h
 unfold doOf
 split
 ·exact fun _ => he _
 split
 ·unfold zq562
  split
  ·exact fun _ => he _
  split
  ·exact fun _ => he _
  ·exact ho _ _ _ _ _
 split
 ·unfold zq558
  split
  ·exact fun _ => he _
  split
  ·exact fun _ => he _
  split
  ·exact fun _ => he _
  ·exact ho _ _ _ _ _
 split
 ·unfold zq557
  split
  ·exact fun _ => he _
  split
  ·exact fun _ => he _
  split
  ·exact fun _ => he _
  split
  ·exact fun _ => he _
  ·exact ho _ _ _ _ _
 split
 ·unfold zq556
  split
  ·exact fun _ => he _
  split
  ·exact ho _ _ _ _ _
  ·exact fun _ => he _
 ·unfold zq563
  split
  ·exact fun _ => he _
  ·exact ho _ _ _ _ _
end Go.Ma
namespace Go.Ma
open Go
section
variable {α : Type}
theorem zq1048 {l : List α} {n : Nat} {x y : α} : y ∈ putAt l n x ↔ y ∈ l ∨ y = x:=by
 unfold putAt
 conv => rhs;rw [← List.take_append_drop n l]
 simp only [zc36,zc28]
 constructor
 ·rintro (h | h | h)
  ·exact .inl (.inl h)
  ·exact .inr h
  ·exact .inl (.inr h)
 ·rintro ((h | h) | h)
  ·exact .inl h
  ·exact .inr (.inr h)
  ·exact .inr (.inl h)
theorem zq1302 {l : List α} {n : Nat} {x : α} : (putAt l n x).length = l.length + 1:=by
 unfold putAt
 have:=congrArg List.length (List.take_append_drop n l)
 simp only [zc24,zc21] at this ⊢
 omega
theorem zq1301 {l : List α} {n : Nat} (hn : n ≤ l.length) (x : α) (i : Nat) : (putAt l n x)[i]? = if i < n then l[i]? else if i = n then some x else l[i - 1]?:=zq739 hn x i
theorem zq1303 {R : α → α → Prop} {l : List α} {n : Nat} {x : α} (h : l.Pairwise R) (h1 : ∀ i y,l[i]? = some y → i < n → R y x) (h2 : ∀ i y,l[i]? = some y → n ≤ i → R x y) : (putAt l n x).Pairwise R:=by
 unfold putAt
 have hs : (l.take n ++ l.drop n).Pairwise R:=by rw [List.take_append_drop];exact h
 obtain ⟨a1,a2,a3⟩:=List.pairwise_append.1 hs
 refine List.pairwise_append.2 ⟨a1,zc44.2 ⟨fun y hy => ?_,a2⟩,fun y hy z hz => ?_⟩
 ·obtain ⟨i,hi⟩:=zc30.1 hy
  rw [zc38] at hi
  exact h2 _ y hi (by omega)
 ·rcases zc28.1 hz with rfl | hz
  ·obtain ⟨i,hi⟩:=zc30.1 hy
   rw [zc14] at hi
   split at hi
   ·exact h1 i y hi (by assumption)
   ·cases hi
  ·exact a3 y hy z hz
end
theorem zq653 {l : List (List Ad)} {n : Nat} (hn : n ≤ l.length) (x : List Ad) (i : Nat) : (putAt l n x).getD i [] = if i < n then l.getD i [] else if i = n then x else l.getD (i - 1) []:=by
 simp only [zc3,zq1301 hn]
 split
 ·rfl
 split <;> rfl
theorem zq1110 {ps : List Pf} {ks : List (List Ad)} {ls : List Ls} {now : Int} (h : StOk ps ks ls now) {p : Pf} (hp : p.In) (c1 : chkP p = 0) (c2 : ((wid p.ad.v6 : Nat) : Int) - p.bits ≤ 4) (hno : ps.any (fun q => meets q p) = false) (h3 : ps.length ≠ 3) :
  StOk (putAt ps (posP p ps) p) (putAt ks (posP p ps) []) ls now:=by
 have hpl:=h.plen
 have hkl:=h.klen
 have hle:=zq1237 p ps
 have hno' : ∀ q ∈ ps,meets q p = false:=fun q hq => by
  rw [List.any_eq_false] at hno
  simpa using hno q hq
 refine ⟨fun q hq => ?_,fun k hk => ?_,h.lin,by rw [zq1302,zq1302,hkl],by rw [zq1302];omega,fun i q hq => ?_,?_,h.time,h.all,fun x hx => ?_,h.upto,h.who⟩
 ·rcases zq1048.1 hq with hq | rfl
  ·exact h.pin q hq
  ·exact ⟨hp,c1⟩
 ·rcases zq1048.1 hk with hk | rfl
  ·exact h.kin k hk
  ·exact fun a ha => by cases ha
 ·rw [zq1301 hle] at hq
  rw [zq653 (by omega)]
  split
  ·rename_i hi;rw [if_pos hi] at hq;exact h.pool i q hq
  ·rename_i hi
   rw [if_neg hi] at hq
   split
   ·rename_i he
    rw [if_pos he] at hq
    injection hq with hq
    subst hq
    exact zq488.2 ⟨c1,c2,by simp,(fun a ha => by cases ha),List.Pairwise.nil⟩
   ·rename_i he
    rw [if_neg he] at hq
    exact h.pool (i - 1) q hq
 ·refine zq1303 h.pair (fun i y hy hi => ⟨(zq1236 h.pair p hy).2 hi,hno' y (zc5 hy)⟩) (fun i y hy hi => ?_)
  have hne : y ≠ p:=fun e => by have:=hno' y (zc5 hy);rw [e,zq1045 c1] at this;cases this
  have:=zq360 h.pair hy hne
  rw [decide_eq_true hi] at this
  exact ⟨of_decide_eq_true this,by rw [zq1042];exact hno' y (zc5 hy)⟩
 ·obtain ⟨q,hq,hh⟩:=h.has x hx
  exact ⟨q,zq1048.2 (.inl hq),hh⟩
theorem zq1109 {ps : List Pf} {ks : List (List Ad)} {ls : List Ls} {now : Int} (h : StOk ps ks ls now) {a : Ad} (ha : a.In) (ca : chkA a = 0) {i : Nat} (hi : zq1220 ps a = some i) (hno : (ks.getD i []).any (fun x => decide (a = x)) = false) (h6 : (ks.getD i []).length ≠ 6) :
  StOk ps (ks.set i (putAt (ks.getD i []) (posA a (ks.getD i [])) a)) ls now:=by
 have hkl:=h.klen
 obtain ⟨p,hp,hh,_⟩:=zq608 hi
 have hil:=zq606 hi
 obtain ⟨k1,k2,k3,k4,k5⟩:=zq488.1 (h.pool i p hp)
 have hne : ∀ x ∈ ks.getD i [],a ≠ x:=fun x hx e => by
  rw [List.any_eq_false] at hno
  exact hno x hx (decide_eq_true e)
 have hkin:=kp_at h.kin i
 have hget : ∀ j,(ks.set i (putAt (ks.getD i []) (posA a (ks.getD i [])) a)).getD j [] = if j = i then putAt (ks.getD i []) (posA a (ks.getD i [])) a else ks.getD j []:=fun j => by
  rw [zc3]
  by_cases hj : j = i
  ·subst hj
   rw [zc23 (by omega),if_pos rfl];rfl
  ·rw [zc15 (by omega),if_neg hj,zc3]
 refine ⟨h.pin,fun k hk => ?_,h.lin,by rw [zc42,hkl],h.plen,fun j q hq => ?_,h.pair,h.time,h.all,h.has,h.upto,h.who⟩
 ·rcases List.mem_or_eq_of_mem_set hk with hk | rfl
  ·exact h.kin k hk
  ·intro b hb
   rcases zq1048.1 hb with hb | rfl
   ·exact hkin b hb
   ·exact ha
 ·rw [hget]
  split
  ·rename_i hj
   subst hj
   rw [hp] at hq
   injection hq with hq
   subst hq
   refine zq488.2 ⟨k1,k2,by rw [zq1302];omega,fun b hb => ?_,?_⟩
   ·rcases zq1048.1 hb with hb | rfl
    ·exact k4 b hb
    ·exact ⟨ca,hh⟩
   ·exact zq1303 k5 (fun n y hy hn => (zq1232 k5 a hy).2 hn) (fun n y hy hn => zq1173 (fun hlt => by have:=(zq1232 k5 a hy).1 hlt;omega) (Ne.symm (hne y (zc5 hy))))
  ·exact h.pool j q hq
theorem zq368 {l : List Ls} (hin : lsIn l) (h20 : l.length ≤ 20) (hc : ∀ x ∈ l,chkLs x = 0) (ha : l.Pairwise fun x y => rank x.ad < rank y.ad) {now : Int} (ht : betw now 0 9999 = true) : allC l now = 0:=by
 unfold allC
 rw [if_neg (by omega),if_neg (fun hh => hh (zq480 hc)),(zq406 hin).2 ha,if_neg (by simp),ht]
 simp
theorem zq1107 {ps : List Pf} {ks : List (List Ad)} {ls : List Ls} {now : Int} (h : StOk ps ks ls now) {m : List Ls} (hs : m.Sublist ls) {n : Int} (hn : now ≤ n) (ht : betw n 0 9999 = true) (hu : ∀ x ∈ m,n ≤ x.upto) : StOk ps ks m n:=by
 have hin : lsIn m:=fun x hx => h.lin x (hs.subset hx)
 exact ⟨h.pin,h.kin,hin,h.klen,h.plen,h.pool,h.pair,ht,zq368 hin (Nat.le_trans hs.length_le h.llen) (fun x hx => h.lchk x (hs.subset hx)) (((zq406 h.lin).1 (zq369 h.all).2.2.1).sublist hs) ht,
  fun x hx => h.has x (hs.subset hx),hu,h.who.sublist hs⟩
theorem zq1108 {ps : List Pf} {ks : List (List Ad)} {ls : List Ls} {now : Int} (h : StOk ps ks ls now) {k : Nat} {p : Pf} (hp : ps[k]? = some p) {kp : List Ad} {who : ByteArray} {u : Int} {m : List Ls} {a : Ad} (g : Given p kp (ownL p ls) who now u m a)
  (hw : ∀ x ∈ m,∀ y ∈ othL p ls,x.who ≠ y.who) (h20 : m.length + (othL p ls).length ≤ 20) : StOk ps ks (sortL (m ++ othL p ls)) now:=by
 have hmem : ∀ x,x ∈ sortL (m ++ othL p ls) ↔ x ∈ m ∨ x ∈ othL p ls:=fun x => by rw [(zq1528 _).mem_iff,zc36]
 have hpm:=zc5 hp
 have hap:=zq1057 (zq405 g.good.asc) (zq405 (zq1183 h p)) g.good.held zq1184
 have hin : lsIn (sortL (m ++ othL p ls)):=fun x hx => by
  rcases (hmem x).1 hx with hx | hx
  ·exact g.good.ins x hx
  ·exact zq1185 h.lin x hx
 have hasc : (sortL (m ++ othL p ls)).Pairwise fun x y => rank x.ad < rank y.ad:=by
  have h1:=zq1529 (m ++ othL p ls)
  have h2 : (sortL (m ++ othL p ls)).Pairwise fun x y => x.ad ≠ y.ad:=((zq1528 _).pairwise_iff (fun hxy => Ne.symm hxy)).2 hap
  refine List.Pairwise.imp_of_mem (fun {x y} hx hy hxy => ?_) (h1.and h2)
  obtain ⟨e1,e2⟩:=hxy
  unfold leL at e1
  rw [zq317,decide_eq_false_iff_not] at e1
  exact (zq1181 (hin x hx).1 (hin y hy).1).1.1 (zq1173 e1 (Ne.symm e2))
 refine ⟨h.pin,h.kin,hin,h.klen,h.plen,h.pool,h.pair,h.time,zq368 hin (by rw [(zq1528 _).length_eq,zc24];exact h20) (fun x hx => ?_) hasc h.time,fun x hx => ?_,fun x hx => ?_,?_⟩
 ·rcases (hmem x).1 hx with hx | hx
  ·exact g.good.chk x hx
  ·exact h.lchk x (List.mem_filter.1 hx).1
 ·rcases (hmem x).1 hx with hx | hx
  ·exact ⟨p,hpm,g.good.held x hx⟩
  ·exact h.has x (List.mem_filter.1 hx).1
 ·rcases (hmem x).1 hx with hx | hx
  ·exact g.alive x hx
  ·exact h.upto x (List.mem_filter.1 hx).1
 ·refine ((zq1528 _).pairwise_iff (fun hxy => Ne.symm hxy)).2 (List.pairwise_append.2 ⟨g.good.whos,h.who.filter _,hw⟩)
theorem zq663 {p : Pf} {kp : List Ad} {l : List Ls} {who : ByteArray} {now u : Int} {m : List Ls} (hr : m = (rawOf p kp (live l now) who u).1) : ∀ x ∈ m,x.who = who ∨ x ∈ l:=by
 intro x hx
 subst hr
 unfold rawOf at hx
 cases hf : zq603 (whoP who) (live l now) with
 | some k =>
  rw [hf] at hx
  obtain ⟨e,he,hq,_⟩:=zq608 hf
  simp only [zq755,he] at hx
  rcases zq1050 hx with hx | rfl
  ·exact .inr (zq1008 hx).1
  ·exact .inl (by simpa [whoP] using hq)
 | none =>
  rw [hf] at hx
  cases hfr : zq648 p kp (live l now) with
  | none => rw [hfr] at hx;cases hx
  | some b =>
   rw [hfr] at hx
   rcases zq1047.1 hx with hx | rfl
   ·exact .inr (zq1008 hx).1
   ·exact .inl rfl
theorem zq408 {p : Pf} {ls : List Ls} {who : ByteArray} (h : awayB p ls who = false) (hw : ls.Pairwise fun x y => x.who ≠ y.who) : ∀ x ∈ othL p ls,x.who ≠ who:=by
 intro x hx he
 obtain ⟨h1,h2⟩:=List.mem_filter.1 hx
 obtain ⟨k,hk,hk2⟩:=zq1734 hw h1
 unfold awayB at h
 rw [← he,hk] at h
 simp only [hk2] at h
 rw [h] at h2
 cases h2
theorem zq560 {ps : List Pf} {ks : List (List Ad)} {ls : List Ls} {now : Int} (h : StOk ps ks ls now) {o : Oq} (ho : o.In) {ps' : List Pf} {ks' : List (List Ad)} {ls' : List Ls} {now' : Int} {a : Ad} (he : doOf ps ks ls now o = okS ps' ks' ls' now' a) : StOk ps' ks' ls' now' ∧ now ≤ now':=by
 have hno : ∀ {e : Int},e ≠ 0 → errS e = okS ps' ks' ls' now' a → StOk ps' ks' ls' now' ∧ now ≤ now':=fun hn he => absurd (congrArg (fun y => y.2.2.1) he) hn
 have hok : ∀ {p1 : List Pf} {k1 : List (List Ad)} {l1 : List Ls} {n1 : Int} {a1 : Ad},okS p1 k1 l1 n1 a1 = okS ps' ks' ls' now' a → StOk p1 k1 l1 n1 → now ≤ n1 → StOk ps' ks' ls' now' ∧ now ≤ now':=fun he h1 h2 => by
  unfold okS at he
  simp only [zc11] at he
  obtain ⟨⟨⟨rfl,rfl⟩,rfl,rfl,_⟩,_⟩:=he
  exact ⟨h1,h2⟩
 unfold doOf at he
 split at he
 ·rename_i hf;exact hno hf he
 rename_i hf
 have hf:=zc48.1 hf
 split at he
 ·rename_i hk
  obtain ⟨c1,c2⟩:=zq643 hf hk
  unfold zq562 at he
  split at he
  ·exact hno (by decide) he
  rename_i ha
  split at he
  ·exact hno (by decide) he
  rename_i h3
  exact hok he (zq1110 h ho.2.1 c1 c2 (by simpa using ha) h3) (Int.le_refl _)
 split at he
 ·rename_i hk
  unfold zq558 at he
  split at he
  ·exact hno (by decide) he
  rename_i i hi
  split at he
  ·exact hno (by decide) he
  rename_i ha
  split at he
  ·exact hno (by decide) he
  rename_i h6
  exact hok he (zq1109 h ho.2.2.1 (zq641 hf hk) hi (Bool.eq_false_iff.2 ha) h6) (Int.le_refl _)
 split at he
 ·rename_i hk
  obtain ⟨g1,g2⟩:=zq640 hf hk
  have hw:=zq645 hf (.inl hk)
  unfold zq557 at he
  split at he
  ·exact hno (by decide) he
  rename_i p hp
  split at he
  ·exact hno (by decide) he
  rename_i haw
  split at he
  ·exact hno (by decide) he
  rename_i hr
  split at he
  ·exact hno (by decide) he
  rename_i h20
  have gv:=zq677 h hp ho.2.2.2.1 hw g2 hr
  refine hok he (zq1108 h hp gv (fun x hx y hy e => ?_) (by omega)) (Int.le_refl _)
  rcases zq663 rfl x hx with hx | hx
  ·exact zq408 (by simpa using haw) h.who y hy (by rw [← e,hx])
  ·obtain ⟨x1,x2⟩:=List.mem_filter.1 hx
   obtain ⟨y1,y2⟩:=List.mem_filter.1 hy
   obtain ⟨i,hi,hi2⟩:=zq1734 h.who x1
   obtain ⟨j,hj,hj2⟩:=zq1734 h.who y1
   rw [e,hj] at hi
   injection hi with hi
   subst hi
   rw [hj2] at hi2
   injection hi2 with hi2
   rw [hi2,x2] at y2
   cases y2
 split at he
 ·unfold zq556 at he
  split at he
  ·exact hno (by decide) he
  rename_i i hi
  split at he
  ·exact hok he (zq1107 h (by
    have:=List.eraseIdx_sublist ls i
    rwa [List.eraseIdx_eq_take_drop_succ] at this) (Int.le_refl _) h.time (fun x hx => h.upto x (by
    have hs:=List.eraseIdx_sublist ls i
    rw [List.eraseIdx_eq_take_drop_succ] at hs
    exact hs.subset hx))) (Int.le_refl _)
  ·exact hno (by decide) he
 ·rename_i k1 k2 k3 k4
  unfold zq563 at he
  split at he
  ·exact hno (by decide) he
  rename_i hn
  have hk:=zq642 hf
  exact hok he (zq1107 h List.filter_sublist (by omega) (zq644 hf (by omega)) (fun x hx => (zq1008 hx).2)) (by omega)
end Go.Ma
namespace Go.Ma
open Go
structure StIn (ps : List Pf) (ks : List (List Ad)) (ls : List Ls) : Prop where
 p : rowIn .pfx ps
 len : ks.length = ps.length
 k : ∀ l ∈ ks,rowIn .addr l
 l : rowIn .lease ls
theorem StIn.ps {ps : List Pf} {ks : List (List Ad)} {ls : List Ls} (h : StIn ps ks ls) : ∀ p ∈ ps,p.In:=h.p.2
theorem StIn.ks {ps : List Pf} {ks : List (List Ad)} {ls : List Ls} (h : StIn ps ks ls) : kpIn ks:=fun k hk => (h.k k hk).2
theorem StIn.ls {ps : List Pf} {ks : List (List Ad)} {ls : List Ls} (h : StIn ps ks ls) : lsIn ls:=h.l.2
theorem StIn.fit {ps : List Pf} {ks : List (List Ad)} {ls : List Ls} (h : StIn ps ks ls) : fitS ps ks ls:=fit_of (zq1032 h.p.1) (fun k hk => zq1032 (h.k k hk).1) (zq1032 h.l.1)
theorem StOk.fit {ps : List Pf} {ks : List (List Ad)} {ls : List Ls} {now : Int} (h : StOk ps ks ls now) : fitS ps ks ls:=by
 have h1:=h.plen
 have h2:=h.llen
 refine ⟨by omega,fun i => ?_,by omega⟩
 by_cases hi : i < ps.length
 ·have:=h.kept (zc0 hi)
  omega
 ·rw [zc3,zc22 (by rw [h.klen];omega)]
  simp
theorem zq561 (ps : List Pf) (ks : List (List Ad)) (ls : List Ls) (now : Int) (o : Oq) : (∃ e,e ≠ 0 ∧ doOf ps ks ls now o = errS e) ∨ ∃ ps' ks' ls' now' a,doOf ps ks ls now o = okS ps' ks' ls' now' a:=by
 by_cases h : (doOf ps ks ls now o).2.2.1 = 0
 ·right
  generalize doOf ps ks ls now o = y at h ⊢
  obtain ⟨⟨⟨p,k⟩,l,n,_⟩,a,e,_⟩:=y
  simp only at h
  subst h
  exact ⟨p,k,l,n,a,rfl⟩
 ·exact .inl ⟨_,h,zq559 h⟩
end Go.Ma
namespace Go.Ma
open Go
theorem zq1013 {α Y : Type} {step : (α → Option Y) → α → Option Y} (I : α → Prop) (μ : α → Nat) (Q : Y → Prop)
  (h : ∀ x,I x → (∃ y,(∀ rec,step rec x = some y) ∧ Q y) ∨ ∃ x',I x' ∧ μ x' < μ x ∧ ∀ rec,step rec x = rec x') : ∀ (N : Nat) (x : α),I x → μ x < N → ∃ y,loopN step N x = some y ∧ Q y:=by
 intro N
 induction N with
 | zero => intro x _ hx;omega
 | succ N ih =>
  intro x hI hx
  rcases h x hI with ⟨y,hy,hq⟩ | ⟨x',hI',hm,hs⟩
  ·exact ⟨y,by rw [zq1010,hy],hq⟩
  ·obtain ⟨y,hy,hq⟩:=ih x' hI' (by omega)
   exact ⟨y,by rw [zq1010,hs,hy],hq⟩
theorem zq675 (p : Pf) (kp : List Ad) {l : List Ls} (hl : l.length < 9223372036854775807) (who : ByteArray) (now ttl : Int) : (zq674 p kp l who now ttl).1.length < 9223372036854775808:=by
 have h1 : (rawOf p kp (live l now) who (now + ttl)).1.length ≤ (live l now).length + 1:=by
  unfold rawOf
  cases zq603 (whoP who) (live l now) with
  | some k =>
   simp only
   unfold zq755
   cases (live l now)[k]? <;> simp
  | none =>
   simp only
   cases zq648 p kp (live l now) with
   | none => simp [zq1305]
   | some a =>
    have:=zq1235 a (live l now)
    simp [zq1305,insAt]
    omega
 have h2:=zq1005 l now
 unfold zq674
 split
 ·simp
 split
 ·simp
 split
 ·simp
 split
 ·simp
 ·simp only;omega
theorem zq566 {l : List Ls} (hl : l.length < 9223372036854775808) (now : Int) : (zq565 l now).1.length < 9223372036854775808:=by
 have h2:=zq1005 l now
 unfold zq565
 split
 ·simp
 ·simp only;omega
def cpMk (ks : List (List Ad)) (ps : List Pf) (ls : List Ls) (now : Int) (i : Nat) : ((Unit) × (Unit) × (Unit) × (Int × Unit) × Unit) × (List (List Ad) × List Pf × List Ls × (Int × Unit) × (Int × Unit) × (Int × Unit) × List Pf × List Ls × List Pf × List Ls × List (List Ad) × List (List Ad) × Unit) :=
 (((),(),(),((i : Int),()),()),(ks,ps,ls,(now,()),(0,()),(now,()),([] : List Pf),([] : List Ls),ps.take i,ls,([] : List (List Ad)),ks.take i,()))
theorem zq509 {ks : List (List Ad)} {ps : List Pf} (ls : List Ls) (now : Int) (hk : ks.length = ps.length) (hp : ps.length ≤ 1048576) (hks : ∀ k ∈ ks,k.length ≤ 1048576) :
  loopN zq807 FUEL (cpMk ks ps ls now 0) = some (((),(),()),(ks,ps,ls,(0,()),(now,()),([] : List Pf),([] : List Ls),ps,ls,([] : List (List Ad)),ks,())):=by
 refine zq1015 (cpMk ks ps ls now) ps.length (fun _ => some (((),(),()),(ks,ps,ls,(0,()),(now,()),([] : List Pf),([] : List Ls),ps,ls,([] : List (List Ad)),ks,()))) (fun rec i hi hr => ?_) (fun rec => ?_) FUEL 0 (Nat.zero_le _) (zq651 (by omega))
 ·obtain ⟨x,hx⟩ : ∃ e,ps[i]? = some e:=⟨_,zc0 hi⟩
  obtain ⟨y,hy⟩ : ∃ e,ks[i]? = some e:=⟨_,zc0 (by omega)⟩
  have r1 : zq697 (i : Int) (lenL ps) = true:=zq699 (by omega) (by unfold lenL;omega)
  have hyl : y.length ≤ 1048576:=hks y (zc5 hy)
  have hg : ks.getD i [] = y:=by rw [zc3,hy];rfl
  have r2 : room (lenL ([] : List Ad)) (lenL y) = true:=zq1424 (zq993 _) (zq993 _) (by unfold lenL;simp;omega)
  have r3 : room (lenL (ps.take i)) (lenL [x]) = true:=zq1424 (zq993 _) (zq993 _) (by unfold lenL;simp;omega)
  have e1 : ps.take i ++ [x] = ps.take (i + 1):=by rw [List.take_add_one,hx];rfl
  have e2 : padL (ps.take i).length (ks.take i) ++ [[] ++ y] = ks.take (i + 1):=by
   have : padL (ps.take i).length (ks.take i) = ks.take i:=by
    unfold padL
    rw [List.take_append_of_le_length (by simp;omega),List.take_of_length_le (by simp;omega)]
   rw [this,zc41,List.take_add_one,hy]
   rfl
  unfold cpMk
  simp only [zq807]
  simp only [r1,zq1400,zq657 hx,zq415,zq655,hg,r2,r3,zq570,zq441,e1,e2]
  rw [decide_eq_true (show (i : Int) < lenL ps by unfold lenL;omega),zq445]
  rw [show ((i : Int) + 1) = ((i + 1 : Nat) : Int) by omega,zq1398 (zq693 (by omega) (by omega))]
  exact hr
 ·unfold cpMk
  simp only [zq807]
  rw [decide_eq_false (show ¬ (ps.length : Int) < lenL ps by unfold lenL;omega),zq443,List.take_length,show ks.take ps.length = ks by rw [← hk,List.take_length]]
theorem zq813 {ks : List (List Ad)} {ps : List Pf} {ls : List Ls} (now : Int) (hk : ks.length = ps.length) (hp : ps.length ≤ 1048576) (hks : ∀ k ∈ ks,k.length ≤ 1048576) (hl : ls.length ≤ 1048576) :
  zq815 (ps,ks) ls now = some (((ps,ks),ls,now,()),()):=by
 have r1 : room (lenL ([] : List Ls)) (lenL ls) = true:=zq1424 (zq993 _) (zq993 _) (by unfold lenL;simp;omega)
 have h:=zq509 ls now hk hp hks
 unfold cpMk at h
 rw [List.take_zero,List.take_zero,show ((0 : Nat) : Int) = 0 from rfl] at h
 unfold zq815
 simp only [r1,zq1400,zq570,zq441,zc41]
 rw [h,zq415]
abbrev SpT:=List (List Ad) × List Pf × List Ls × List Ad × List Ls × (Int × Unit) × (Oq × Unit) × (Bool × Int × Int × Int × Unit) × (Int × Unit) × (Bool × Int × Int × Int × Unit) × List Ls × (Int × Unit) × List Pf × List Ls × List Ad × List Pf × List Ls × List (List Ad) × List (List Ad) × List (List Ad) × List Pf × List Ls × (Int × Unit) × List (List Ad) × List Pf × List Ls × (Ad × Unit) × List Ls × (Ad × Unit) × List Ls × (Int × Unit) × Unit
abbrev SpO:=List (List Ad) × List Pf × List Ls × List Ad × List Ls × (Int × Unit) × (Oq × Unit) × (Bool × Int × Int × Int × Unit) × (Int × Unit) × (Bool × Int × Int × Int × Unit) × List Ls × (Int × Unit) × List Pf × List Ls × List Ad × List Pf × List Ls × List (List Ad) × List (List Ad) × List (List Ad) × List Pf × List Ls × (Int × Unit) × List (List Ad) × List Pf × List Ls × (Ad × Unit) × List Ls × (Ad × Unit) × List Ls × Unit
abbrev T9:=List (List Ad) × List Pf × List Ls × List Ad × List Ls × (Int × Unit) × (Oq × Unit) × (Bool × Int × Int × Int × Unit) × (Int × Unit) × (Bool × Int × Int × Int × Unit) × List Ls × (Int × Unit) × List Pf × List Ls × List Ad × List Pf × List Ls × List (List Ad) × List (List Ad) × Unit
abbrev T20:=List (List Ad) × List Pf × List Ls × List Ad × List Ls × (Int × Unit) × (Oq × Unit) × (Bool × Int × Int × Int × Unit) × (Int × Unit) × (Bool × Int × Int × Int × Unit) × List Ls × (Int × Unit) × List Ls × List Ls × List Pf × List Ls × List Ad × List Pf × List Ls × List (List Ad) × List (List Ad) × Unit
abbrev T24:=List (List Ad) × List Pf × List Ls × List Ad × List Ls × (Int × Unit) × (Oq × Unit) × (Bool × Int × Int × Int × Unit) × (Int × Unit) × (Bool × Int × Int × Int × Unit) × List Ls × (Int × Unit) × List Ls × List Pf × List Ls × List Ad × List Pf × List Ls × List (List Ad) × List (List Ad) × Unit
def spT (w : SpT) (k : List (List Ad)) (p : List Pf) (l : List Ls) : SpT:=(w.1,w.2.1,w.2.2.1,w.2.2.2.1,w.2.2.2.2.1,w.2.2.2.2.2.1,w.2.2.2.2.2.2.1,w.2.2.2.2.2.2.2.1,w.2.2.2.2.2.2.2.2.1,w.2.2.2.2.2.2.2.2.2.1,w.2.2.2.2.2.2.2.2.2.2.1,w.2.2.2.2.2.2.2.2.2.2.2.1,w.2.2.2.2.2.2.2.2.2.2.2.2.1,w.2.2.2.2.2.2.2.2.2.2.2.2.2.1,w.2.2.2.2.2.2.2.2.2.2.2.2.2.2.1,w.2.2.2.2.2.2.2.2.2.2.2.2.2.2.2.1,w.2.2.2.2.2.2.2.2.2.2.2.2.2.2.2.2.1,w.2.2.2.2.2.2.2.2.2.2.2.2.2.2.2.2.2.1,w.2.2.2.2.2.2.2.2.2.2.2.2.2.2.2.2.2.2.1,k,p,l,w.2.2.2.2.2.2.2.2.2.2.2.2.2.2.2.2.2.2.2.2.2.2)
def spO (w : SpT) (k : List (List Ad)) (p : List Pf) (l : List Ls) : SpO:=(w.1,w.2.1,w.2.2.1,w.2.2.2.1,w.2.2.2.2.1,w.2.2.2.2.2.1,w.2.2.2.2.2.2.1,w.2.2.2.2.2.2.2.1,w.2.2.2.2.2.2.2.2.1,w.2.2.2.2.2.2.2.2.2.1,w.2.2.2.2.2.2.2.2.2.2.1,w.2.2.2.2.2.2.2.2.2.2.2.1,w.2.2.2.2.2.2.2.2.2.2.2.2.1,w.2.2.2.2.2.2.2.2.2.2.2.2.2.1,w.2.2.2.2.2.2.2.2.2.2.2.2.2.2.1,w.2.2.2.2.2.2.2.2.2.2.2.2.2.2.2.1,w.2.2.2.2.2.2.2.2.2.2.2.2.2.2.2.2.1,w.2.2.2.2.2.2.2.2.2.2.2.2.2.2.2.2.2.1,w.2.2.2.2.2.2.2.2.2.2.2.2.2.2.2.2.2.2.1,k,p,l,w.2.2.2.2.2.2.2.2.2.2.2.2.2.2.2.2.2.2.2.2.2.2.1,w.2.2.2.2.2.2.2.2.2.2.2.2.2.2.2.2.2.2.2.2.2.2.2.1,w.2.2.2.2.2.2.2.2.2.2.2.2.2.2.2.2.2.2.2.2.2.2.2.2.1,w.2.2.2.2.2.2.2.2.2.2.2.2.2.2.2.2.2.2.2.2.2.2.2.2.2.1,w.2.2.2.2.2.2.2.2.2.2.2.2.2.2.2.2.2.2.2.2.2.2.2.2.2.2.1,w.2.2.2.2.2.2.2.2.2.2.2.2.2.2.2.2.2.2.2.2.2.2.2.2.2.2.2.1,w.2.2.2.2.2.2.2.2.2.2.2.2.2.2.2.2.2.2.2.2.2.2.2.2.2.2.2.2.1,w.2.2.2.2.2.2.2.2.2.2.2.2.2.2.2.2.2.2.2.2.2.2.2.2.2.2.2.2.2.1,())
theorem zq1540 (rec) (i j : Int) (w : SpT) (k : List (List Ad)) (p : List Pf) (l : List Ls) : zq798 rec (((),(i,()),(j,()),()),spT w k p l) =
  (req (zq697 i (lenL p)) <| req (zq697 i (lenL p)) <| (geti p i).bind fun _ => br (decide (j < lenL (getL k i))) (req (zq697 i (lenL p)) <| req (zq697 i (lenL p)) <| (geti p i).bind fun _ => req (zq697 j (lenL (getL k i))) <| req (zq697 j (lenL (getL k i))) <| (geti (getL k i) j).bind fun a => req (i64ok (j + 1)) <| rec (((),(i,()),(j + 1,()),()),spT w (seti k i (seti (getL k i) j (⟨a.v6,a.hi,7⟩ : Ad))) p l)) (some (((),(i,()),()),spT w k p l))):=rfl
theorem zq1462 (k : List (List Ad)) (i : Nat) (v : List Ad) (hv : v.length = (k.getD i []).length) (n : Nat) : ((k.set i v).getD n []).length = (k.getD n []).length:=by
 rw [zc3,zc3,List.getElem?_set]
 split
 ·rename_i h
  subst h
  split
  ·rw [zc3] at hv
   exact hv
  ·rename_i h
   rw [zc22 (by omega)]
 ·rfl
theorem zq1539 (w : SpT) (l : List Ls) {p : List Pf} {i : Nat} (hi : i < p.length) (hp : p.length < 9223372036854775808) (k0 : List (List Ad)) (hk : (k0.getD i []).length < 9223372036854775808) :
  ∃ k',loopN zq798 FUEL (((),((i : Int),()),(0,()),()),spT w k0 p l) = some (((),((i : Int),()),()),spT w k' p l) ∧ ∀ n,(k'.getD n []).length = (k0.getD n []).length:=by
 obtain ⟨x,hx⟩ : ∃ e,p[i]? = some e:=⟨_,zc0 hi⟩
 have r1 : zq697 (i : Int) (lenL p) = true:=zq699 (by omega) (by unfold lenL;omega)
 obtain ⟨y,hy,k',rfl,hk'⟩:=zq1013 (step:=zq798)
  (fun x => ∃ (j : Nat) (k : List (List Ad)),x = (((),((i : Int),()),((j : Int),()),()),spT w k p l) ∧ (∀ n,(k.getD n []).length = (k0.getD n []).length) ∧ j ≤ (k0.getD i []).length)
  (fun x => (k0.getD i []).length - x.1.2.2.1.1.toNat) (fun y => ∃ k',y = (((),((i : Int),()),()),spT w k' p l) ∧ ∀ n,(k'.getD n []).length = (k0.getD n []).length)
  (fun x' hx' => by
   obtain ⟨j,k,rfl,hlen,hj⟩:=hx'
   have hli:=hlen i
   by_cases hje : j = (k0.getD i []).length
   ·refine .inl ⟨_,fun rec => ?_,k,rfl,hlen⟩
    rw [zq1540,r1,zq1400,zq1400,zq657 hx,zq415,zq655,decide_eq_false (by unfold lenL;omega),zq443]
   ·obtain ⟨a,ha⟩ : ∃ e,(k.getD i [])[j]? = some e:=⟨_,zc0 (by omega)⟩
    have r2 : zq697 (j : Int) (lenL (k.getD i [])) = true:=zq699 (by omega) (by unfold lenL;omega)
    refine .inr ⟨(((),((i : Int),()),(((j + 1 : Nat) : Int),()),()),spT w (k.set i ((k.getD i []).set j (⟨a.v6,a.hi,7⟩ : Ad))) p l),⟨j + 1,_,rfl,fun n => ?_,by omega⟩,?_,fun rec => ?_⟩
    ·rw [zq1462 _ _ _ (by rw [zc42]),hlen]
    ·show (k0.getD i []).length - ((j + 1 : Nat) : Int).toNat < (k0.getD i []).length - ((j : Nat) : Int).toNat
     omega
    ·rw [zq1540,r1,zq1400,zq1400,zq657 hx,zq415,zq655,decide_eq_true (by unfold lenL;omega),zq445,r2,zq1400,zq1400,zq1400,zq1400,zq415,zq657 ha,zq415,zq1398 (zq693 (by omega) (by omega))]
     rfl)
  FUEL (((),((i : Int),()),(0,()),()),spT w k0 p l) ⟨0,k0,rfl,fun _ => rfl,Nat.zero_le _⟩ (zq651 (by show (k0.getD i []).length - (0 : Int).toNat < _;omega))
 exact ⟨k',hy,hk'⟩
theorem zq1538 {i : Int} {w : SpT} {k k' : List (List Ad)} {p : List Pf} {l : List Ls} (h5 : loopN zq798 FUEL (((),(i,()),(0,()),()),spT w k p l) = some (((),(i,()),()),spT w k' p l)) (rec) :
  zq795 rec (((),(i,()),()),spT w k p l) = br (decide (i < lenL p)) (req (zq697 i (lenL p)) <| req (zq697 i (lenL p)) <| req (zq697 i (lenL p)) <| (geti p i).bind fun a => req (i64ok (i + 1)) <| rec (((),(i + 1,()),()),spT w k' (seti p i (⟨a.ad,(-7)⟩ : Pf)) l)) (some (((),()),spT w k p l)):=by
 unfold zq795
 show br _ (Option.bind (loopN zq798 FUEL (((),(i,()),(0,()),()),spT w k p l)) _) _ = _
 rw [h5]
 rfl
theorem zq1536 {w : SpT} {k : List (List Ad)} {p : List Pf} {l : List Ls} (rec) :
  zq795 rec (((),(lenL p,()),()),spT w k p l) = some (((),()),spT w k p l):=by
 unfold zq795
 show br (decide (lenL p < lenL p)) _ _ = _
 rw [decide_eq_false (Int.lt_irrefl _),zq443]
theorem zq1537 (w : SpT) (l : List Ls) (p0 : List Pf) (hp : p0.length < 9223372036854775808) (k0 : List (List Ad)) (hk : ∀ n,(k0.getD n []).length < 9223372036854775808) :
  ∃ k' p',loopN zq795 FUEL (((),(0,()),()),spT w k0 p0 l) = some (((),()),spT w k' p' l):=by
 obtain ⟨y,hy,k',p',rfl⟩:=zq1013 (step:=zq795)
  (fun x => ∃ (i : Nat) (k : List (List Ad)) (p : List Pf),x = (((),((i : Int),()),()),spT w k p l) ∧ (∀ n,(k.getD n []).length = (k0.getD n []).length) ∧ p.length = p0.length ∧ i ≤ p0.length)
  (fun x => p0.length - x.1.2.1.1.toNat) (fun y => ∃ k' p',y = (((),()),spT w k' p' l))
  (fun x' hx' => by
   obtain ⟨i,k,p,rfl,hlen,hpl,hi⟩:=hx'
   by_cases hie : i = p0.length
   ·refine .inl ⟨_,fun rec => ?_,k,p,rfl⟩
    have:=zq1536 (w:=w) (k:=k) (p:=p) (l:=l) rec
    rw [show ((i : Nat) : Int) = lenL p by unfold lenL;omega]
    exact this
   ·obtain ⟨k',h5,hk'⟩:=zq1539 w l (p:=p) (i:=i) (by omega) (by omega) k (by rw [hlen];exact hk i)
    obtain ⟨a,ha⟩ : ∃ e,p[i]? = some e:=⟨_,zc0 (by omega)⟩
    have r1 : zq697 (i : Int) (lenL p) = true:=zq699 (by omega) (by unfold lenL;omega)
    refine .inr ⟨(((),(((i + 1 : Nat) : Int),()),()),spT w k' (p.set i (⟨a.ad,(-7)⟩ : Pf)) l),⟨i + 1,_,_,rfl,fun n => by rw [hk',hlen],by rw [zc42,hpl],by omega⟩,?_,fun rec => ?_⟩
    ·show p0.length - ((i + 1 : Nat) : Int).toNat < p0.length - ((i : Nat) : Int).toNat
     omega
    ·rw [zq1538 h5,decide_eq_true (by unfold lenL;omega),zq445,r1,zq1400,zq1400,zq1400,zq657 ha,zq415,zq1398 (zq693 (by omega) (by omega))]
     rfl)
  FUEL (((),(0,()),()),spT w k0 p0 l) ⟨0,k0,p0,rfl,fun _ => rfl,rfl,Nat.zero_le _⟩ (zq651 (by show p0.length - (0 : Int).toNat < _;omega))
 exact ⟨k',p',hy⟩
theorem zq1535 (rec) (i : Int) (w : SpT) (k : List (List Ad)) (p : List Pf) (l : List Ls) : zq792 rec (((),(i,()),()),spT w k p l) =
  br (decide (i < lenL l)) (req (zq697 i (lenL l)) <| req (zq697 i (lenL l)) <| (geti l i).bind fun a => req (i64ok (i + 1)) <| rec (((),(i + 1,()),()),spT w k p (seti l i (⟨a.ad,(⟨#[63]⟩ : ByteArray),a.upto⟩ : Ls)))) (some ((),spO w k p l)):=rfl
theorem zq1534 (w : SpT) (k : List (List Ad)) (p : List Pf) (l0 : List Ls) (hl : l0.length < 9223372036854775808) :
  ∃ l',loopN zq792 FUEL (((),(0,()),()),spT w k p l0) = some ((),spO w k p l'):=by
 obtain ⟨y,hy,l',rfl⟩:=zq1013 (step:=zq792)
  (fun x => ∃ (i : Nat) (l : List Ls),x = (((),((i : Int),()),()),spT w k p l) ∧ l.length = l0.length ∧ i ≤ l0.length)
  (fun x => l0.length - x.1.2.1.1.toNat) (fun y => ∃ l',y = ((),spO w k p l'))
  (fun x' hx' => by
   obtain ⟨i,l,rfl,hll,hi⟩:=hx'
   by_cases hie : i = l0.length
   ·refine .inl ⟨_,fun rec => ?_,l,rfl⟩
    rw [zq1535,decide_eq_false (by unfold lenL;omega),zq443]
   ·obtain ⟨a,ha⟩ : ∃ e,l[i]? = some e:=⟨_,zc0 (by omega)⟩
    have r1 : zq697 (i : Int) (lenL l) = true:=zq699 (by omega) (by unfold lenL;omega)
    refine .inr ⟨(((),(((i + 1 : Nat) : Int),()),()),spT w k p (l.set i (⟨a.ad,(⟨#[63]⟩ : ByteArray),a.upto⟩ : Ls))),⟨i + 1,_,rfl,by rw [zc42,hll],by omega⟩,?_,fun rec => ?_⟩
    ·show l0.length - ((i + 1 : Nat) : Int).toNat < l0.length - ((i : Nat) : Int).toNat
     omega
    ·rw [zq1535,decide_eq_true (by unfold lenL;omega),zq445,r1,zq1400,zq1400,zq657 ha,zq415,zq1398 (zq693 (by omega) (by omega))]
     rfl)
  FUEL (((),(0,()),()),spT w k p l0) ⟨0,l0,rfl,rfl,Nat.zero_le _⟩ (zq651 (by show l0.length - (0 : Int).toNat < _;omega))
 exact ⟨l',hy⟩
def t20 (h : T9) (m d : List Ls) : T20:=(h.1,h.2.1,h.2.2.1,h.2.2.2.1,h.2.2.2.2.1,h.2.2.2.2.2.1,h.2.2.2.2.2.2.1,h.2.2.2.2.2.2.2.1,h.2.2.2.2.2.2.2.2.1,h.2.2.2.2.2.2.2.2.2.1,h.2.2.2.2.2.2.2.2.2.2.1,h.2.2.2.2.2.2.2.2.2.2.2.1,m,d,h.2.2.2.2.2.2.2.2.2.2.2.2)
def t24 (h : T9) (d : List Ls) : T24:=(h.1,h.2.1,h.2.2.1,h.2.2.2.1,h.2.2.2.2.1,h.2.2.2.2.2.1,h.2.2.2.2.2.2.1,h.2.2.2.2.2.2.2.1,h.2.2.2.2.2.2.2.2.1,h.2.2.2.2.2.2.2.2.2.1,h.2.2.2.2.2.2.2.2.2.2.1,h.2.2.2.2.2.2.2.2.2.2.2.1,d,h.2.2.2.2.2.2.2.2.2.2.2.2)
theorem zq771 (rec) (v0 : ByteArray) (v1 v2 i : Int) (h : T9) (d : List Ls) (m : List Ls) : zq779 rec (((),(v0,()),(),(),(),(),(),(),(v1,()),(),(v2,()),(),(),(i,()),()),t20 h m d) =
  br (decide (i < lenL m)) (req (zq697 i (lenL m)) <| req (zq697 i (lenL m)) <| (geti m i).bind fun a => req (i64ok (i + 1)) <| rec (((),(v0,()),(),(),(),(),(),(),(v1,()),(),(v2,()),(),(),(i + 1,()),()),t20 h (seti m i (⟨a.ad,(⟨#[63]⟩ : ByteArray),a.upto⟩ : Ls)) d)) (some (((),(v0,()),(),(),(),(),(),(),(v1,()),(),(v2,()),(),()),t24 h d)):=rfl
theorem zq770 (v0 : ByteArray) (v1 v2 : Int) (h : T9) (d : List Ls) (l0 : List Ls) (hl : l0.length < 9223372036854775808) :
  loopN zq779 FUEL (((),(v0,()),(),(),(),(),(),(),(v1,()),(),(v2,()),(),(),(0,()),()),t20 h l0 d) = some (((),(v0,()),(),(),(),(),(),(),(v1,()),(),(v2,()),(),()),t24 h d):=by
 obtain ⟨y,hy,rfl⟩:=zq1013 (step:=zq779)
  (fun x => ∃ (i : Nat) (l : List Ls),x = (((),(v0,()),(),(),(),(),(),(),(v1,()),(),(v2,()),(),(),((i : Int),()),()),t20 h l d) ∧ l.length = l0.length ∧ i ≤ l0.length)
  (fun x => l0.length - x.1.2.2.2.2.2.2.2.2.2.2.2.2.2.1.1.toNat) (fun y => y = (((),(v0,()),(),(),(),(),(),(),(v1,()),(),(v2,()),(),()),t24 h d))
  (fun x' hx' => by
   obtain ⟨i,l,rfl,hll,hi⟩:=hx'
   by_cases hie : i = l0.length
   ·refine .inl ⟨_,fun rec => ?_,rfl⟩
    rw [zq771,decide_eq_false (by unfold lenL;omega),zq443]
   ·obtain ⟨a,ha⟩ : ∃ e,l[i]? = some e:=⟨_,zc0 (by omega)⟩
    have r1 : zq697 (i : Int) (lenL l) = true:=zq699 (by omega) (by unfold lenL;omega)
    refine .inr ⟨(((),(v0,()),(),(),(),(),(),(),(v1,()),(),(v2,()),(),(),(((i + 1 : Nat) : Int),()),()),t20 h (l.set i (⟨a.ad,(⟨#[63]⟩ : ByteArray),a.upto⟩ : Ls)) d),⟨i + 1,_,rfl,by rw [zc42,hll],by omega⟩,?_,fun rec => ?_⟩
    ·show l0.length - ((i + 1 : Nat) : Int).toNat < l0.length - ((i : Nat) : Int).toNat
     omega
    ·rw [zq771,decide_eq_true (by unfold lenL;omega),zq445,r1,zq1400,zq1400,zq657 ha,zq415,zq1398 (zq693 (by omega) (by omega))]
     rfl)
  FUEL (((),(v0,()),(),(),(),(),(),(),(v1,()),(),(v2,()),(),(),(0,()),()),t20 h l0 d) ⟨0,l0,rfl,rfl,Nat.zero_le _⟩ (zq651 (by show l0.length - (0 : Int).toNat < _;omega))
 exact hy
theorem zq773 (rec) (v0 : ByteArray) (v1 v2 i : Int) (h : T9) (d : List Ls) : zq782 rec (((),(v0,()),(),(),(),(),(),(),(v1,()),(),(v2,()),(),(i,()),()),t24 h d) =
  br (decide (i < lenL d)) (req (zq697 i (lenL d)) <| req (zq697 i (lenL d)) <| (geti d i).bind fun a => req (i64ok (i + 1)) <| rec (((),(v0,()),(),(),(),(),(),(),(v1,()),(),(v2,()),(),(i + 1,()),()),t24 h (seti d i (⟨a.ad,(⟨#[63]⟩ : ByteArray),a.upto⟩ : Ls)))) (some (((),(v0,()),(),(),(),(),(),(),(v1,()),(),(v2,()),()),h)):=rfl
theorem zq772 (v0 : ByteArray) (v1 v2 : Int) (h : T9) (l0 : List Ls) (hl : l0.length < 9223372036854775808) :
  loopN zq782 FUEL (((),(v0,()),(),(),(),(),(),(),(v1,()),(),(v2,()),(),(0,()),()),t24 h l0) = some (((),(v0,()),(),(),(),(),(),(),(v1,()),(),(v2,()),()),h):=by
 obtain ⟨y,hy,rfl⟩:=zq1013 (step:=zq782)
  (fun x => ∃ (i : Nat) (l : List Ls),x = (((),(v0,()),(),(),(),(),(),(),(v1,()),(),(v2,()),(),((i : Int),()),()),t24 h l) ∧ l.length = l0.length ∧ i ≤ l0.length)
  (fun x => l0.length - x.1.2.2.2.2.2.2.2.2.2.2.2.2.1.1.toNat) (fun y => y = (((),(v0,()),(),(),(),(),(),(),(v1,()),(),(v2,()),()),h))
  (fun x' hx' => by
   obtain ⟨i,l,rfl,hll,hi⟩:=hx'
   by_cases hie : i = l0.length
   ·refine .inl ⟨_,fun rec => ?_,rfl⟩
    rw [zq773,decide_eq_false (by unfold lenL;omega),zq443]
   ·obtain ⟨a,ha⟩ : ∃ e,l[i]? = some e:=⟨_,zc0 (by omega)⟩
    have r1 : zq697 (i : Int) (lenL l) = true:=zq699 (by omega) (by unfold lenL;omega)
    refine .inr ⟨(((),(v0,()),(),(),(),(),(),(),(v1,()),(),(v2,()),(),(((i + 1 : Nat) : Int),()),()),t24 h (l.set i (⟨a.ad,(⟨#[63]⟩ : ByteArray),a.upto⟩ : Ls))),⟨i + 1,_,rfl,by rw [zc42,hll],by omega⟩,?_,fun rec => ?_⟩
    ·show l0.length - ((i + 1 : Nat) : Int).toNat < l0.length - ((i : Nat) : Int).toNat
     omega
    ·rw [zq773,decide_eq_true (by unfold lenL;omega),zq445,r1,zq1400,zq1400,zq657 ha,zq415,zq1398 (zq693 (by omega) (by omega))]
     rfl)
  FUEL (((),(v0,()),(),(),(),(),(),(),(v1,()),(),(v2,()),(),(0,()),()),t24 h l0) ⟨0,l0,rfl,rfl,Nat.zero_le _⟩ (zq651 (by show l0.length - (0 : Int).toNat < _;omega))
 exact hy
def spW (h : T9) (y1 : DoV) (y3 : List Ls × Ad × Int × Unit) (y4 : List Ls × Int × Int × Unit) : SpT :=
 (h.1,h.2.1,h.2.2.1,h.2.2.2.1,h.2.2.2.2.1,h.2.2.2.2.2.1,h.2.2.2.2.2.2.1,h.2.2.2.2.2.2.2.1,h.2.2.2.2.2.2.2.2.1,h.2.2.2.2.2.2.2.2.2.1,h.2.2.2.2.2.2.2.2.2.2.1,h.2.2.2.2.2.2.2.2.2.2.2.1,h.2.2.2.2.2.2.2.2.2.2.2.2.1,h.2.2.2.2.2.2.2.2.2.2.2.2.2.1,h.2.2.2.2.2.2.2.2.2.2.2.2.2.2.1,h.2.2.2.2.2.2.2.2.2.2.2.2.2.2.2.1,h.2.2.2.2.2.2.2.2.2.2.2.2.2.2.2.2.1,h.2.2.2.2.2.2.2.2.2.2.2.2.2.2.2.2.2.1,h.2.2.2.2.2.2.2.2.2.2.2.2.2.2.2.2.2.2.1,y1.1.1.2,y1.1.1.1,y1.1.2.1,(y1.1.2.2.1,()),([] : List (List Ad)),([] : List Pf),([] : List Ls),(y1.2.1,()),y3.1,(y3.2.1,()),y4.1,(y1.1.2.2.1,()),())
theorem zq1438 (rec) (v0 : ByteArray) (v1 : Int) (h : T9) : zq785 rec (((),(v0,()),(),(),(),(),(),(),(v1,()),(),(2,()),()),h) = some (Sum.inr ((),(h.1,h.2.1,h.2.2.1,h.2.2.2.1,h.2.2.2.2.1,()))):=by
 unfold zq785
 show br (decide ((2 : Int) < 2)) _ _ = _
 rw [decide_eq_false (by omega),zq443]
theorem zq1440 {v0 : ByteArray} {v1 v2 : Int} {h : T9} (hv : v2 < 2) (hv0 : 0 ≤ v2) {y1 : DoV} {y3 : List Ls × Ad × Int × Unit} {y4 : List Ls × Int × Int × Unit}
  (e1 : zq1571 (h.2.2.2.2.2.2.2.2.2.2.2.2.1,h.2.2.2.2.2.2.2.2.2.2.2.2.2.2.2.2.2.1) h.2.2.2.2.2.2.2.2.2.2.2.2.2.1 h.2.2.2.2.2.2.2.2.1.1 h.2.2.2.2.2.2.1.1 = some y1)
  (e2 : zq856 y1.1.1 y1.1.2.1 y1.1.2.2.1 y1.2.2.1 v1 (h.2.2.2.2.2.2.2.2.2.2.2.2.2.2.2.1,h.2.2.2.2.2.2.2.2.2.2.2.2.2.2.2.2.2.2.1) h.2.2.2.2.2.2.2.2.2.2.2.2.2.2.2.2.1 h.2.2.2.2.2.2.2.2.2.2.2.1.1 = some (true,()))
  (e3 : zq900 (⟨(⟨h.2.2.2.2.2.2.2.2.2.1.1,h.2.2.2.2.2.2.2.2.2.1.2.1,h.2.2.2.2.2.2.2.2.2.1.2.2.1⟩ : Ad),h.2.2.2.2.2.2.2.2.2.1.2.2.2.1⟩ : Pf) h.2.2.2.2.2.2.2.2.2.2.2.2.2.2.1 h.2.2.2.2.2.2.2.2.2.2.1 v0 h.2.2.2.2.2.1.1 5 = some y3)
  (e4 : zq894 h.2.2.2.2.2.2.2.2.2.2.1 h.2.2.2.2.2.1.1 = some y4)
  (e5 : zq225 (h.2.2.2.2.2.2.2.2.2.2.2.2.1,h.2.2.2.2.2.2.2.2.2.2.2.2.2.2.2.2.2.1) h.2.2.2.2.2.2.2.2.2.2.2.2.2.1 h.2.2.2.2.2.2.2.2.1.1 (h.2.1,h.1) h.2.2.1 h.2.2.2.2.2.1.1 = some (true,()))
  (e6 : zq216 h.2.2.2.2.2.2.2.2.2.2.1 h.2.2.2.2.1 = some (true,()))
  (e7 : zq207 h.2.2.2.2.2.2.2.2.2.2.2.2.2.2.1 h.2.2.2.1 = some (true,()))
  (hf : fitS y1.1.1.1 y1.1.1.2 y1.1.2.1) (h3 : y3.1.length < 9223372036854775808) (h4 : y4.1.length < 9223372036854775808) (rec) :
  zq785 rec (((),(v0,()),(),(),(),(),(),(),(v1,()),(),(v2,()),()),h) = rec (((),(v0,()),(),(),(),(),(),(),(v1,()),(),(v2 + 1,()),()),h):=by
 obtain ⟨hf1,hf2,hf3⟩:=hf
 obtain ⟨k',p',s2⟩:=zq1537 (spW h y1 y3 y4) y1.1.2.1 y1.1.1.1 hf1 y1.1.1.2 hf2
 obtain ⟨l',s10⟩:=zq1534 (spW h y1 y3 y4) k' p' y1.1.2.1 hf3
 have s20:=zq770 v0 v1 v2 h y4.1 y3.1 h3
 have s24:=zq772 v0 v1 v2 h y4.1 h4
 unfold zq785
 show br (decide (v2 < 2)) ((zq1571 (h.2.2.2.2.2.2.2.2.2.2.2.2.1,h.2.2.2.2.2.2.2.2.2.2.2.2.2.2.2.2.2.1) h.2.2.2.2.2.2.2.2.2.2.2.2.2.1 h.2.2.2.2.2.2.2.2.1.1 h.2.2.2.2.2.2.1.1).bind _) _ = _
 rw [decide_eq_true hv,zq445,e1,zq415]
 show (zq856 y1.1.1 y1.1.2.1 y1.1.2.2.1 y1.2.2.1 v1 (h.2.2.2.2.2.2.2.2.2.2.2.2.2.2.2.1,h.2.2.2.2.2.2.2.2.2.2.2.2.2.2.2.2.2.2.1) h.2.2.2.2.2.2.2.2.2.2.2.2.2.2.2.2.1 h.2.2.2.2.2.2.2.2.2.2.2.1.1).bind _ = _
 rw [e2,zq415]
 simp only [zc10,zq443]
 show (zq900 (⟨(⟨h.2.2.2.2.2.2.2.2.2.1.1,h.2.2.2.2.2.2.2.2.2.1.2.1,h.2.2.2.2.2.2.2.2.2.1.2.2.1⟩ : Ad),h.2.2.2.2.2.2.2.2.2.1.2.2.2.1⟩ : Pf) h.2.2.2.2.2.2.2.2.2.2.2.2.2.2.1 h.2.2.2.2.2.2.2.2.2.2.1 v0 h.2.2.2.2.2.1.1 5).bind _ = _
 rw [e3,zq415]
 show (zq894 h.2.2.2.2.2.2.2.2.2.2.1 h.2.2.2.2.2.1.1).bind _ = _
 rw [e4,zq415]
 show (zq225 (h.2.2.2.2.2.2.2.2.2.2.2.2.1,h.2.2.2.2.2.2.2.2.2.2.2.2.2.2.2.2.2.1) h.2.2.2.2.2.2.2.2.2.2.2.2.2.1 h.2.2.2.2.2.2.2.2.1.1 (h.2.1,h.1) h.2.2.1 h.2.2.2.2.2.1.1).bind _ = _
 rw [e5,zq415]
 simp only [zc10,zq443]
 rw [e6]
 simp only [zq415,zc10,zq443]
 rw [e7]
 simp only [zq415,zc10,zq443]
 show (loopN zq795 FUEL (((),(0,()),()),spT (spW h y1 y3 y4) y1.1.1.2 y1.1.1.1 y1.1.2.1)).bind _ = _
 rw [s2,zq415]
 show (loopN zq792 FUEL (((),(0,()),()),spT (spW h y1 y3 y4) k' p' y1.1.2.1)).bind _ = _
 rw [s10,zq415]
 show (loopN zq779 FUEL (((),(v0,()),(),(),(),(),(),(),(v1,()),(),(v2,()),(),(),(0,()),()),t20 h y3.1 y4.1)).bind _ = _
 rw [s20,zq415]
 show (loopN zq782 FUEL (((),(v0,()),(),(),(),(),(),(),(v1,()),(),(v2,()),(),(0,()),()),t24 h y4.1)).bind _ = _
 rw [s24,zq415]
 show req (i64ok (v2 + 1)) _ = _
 rw [zq1398 (zq693 (by omega) (by omega))]
theorem zq1439 {v0 : ByteArray} {v1 : Int} {h : T9} (hs : ∀ v2 : Int,0 ≤ v2 → v2 < 2 → ∀ rec,zq785 rec (((),(v0,()),(),(),(),(),(),(),(v1,()),(),(v2,()),()),h) = rec (((),(v0,()),(),(),(),(),(),(),(v1,()),(),(v2 + 1,()),()),h)) :
  loopN zq785 FUEL (((),(v0,()),(),(),(),(),(),(),(v1,()),(),(0,()),()),h) = some (Sum.inr ((),(h.1,h.2.1,h.2.2.1,h.2.2.2.1,h.2.2.2.2.1,()))):=by
 obtain ⟨n,hn⟩ : ∃ n,FUEL = n + 1 + 1 + 1:=by
  have:=zq651 (n:=100) (by omega)
  exact ⟨FUEL - 3,by omega⟩
 rw [hn,zq1010,hs 0 (by omega) (by omega),zq1010,hs (0 + 1) (by omega) (by omega),zq1010]
 exact zq1438 _ _ _ _
set_option maxHeartbeats 1000000 in
theorem zq256 {ps : List Pf} {ks : List (List Ad)} {ls : List Ls} (h : StIn ps ks ls) (now : Int) {o : Oq} (ho : o.In) {p : Pf} (hp : p.In) {kp : List Ad} (hkp : rowIn .addr kp) {l : List Ls} (hl : rowIn .lease l) {who : ByteArray} (hw : strIn who)
  (n1 : ps.length ≤ 1048576) (n2 : ∀ k ∈ ks,k.length ≤ 1048576) (n3 : ls.length ≤ 1048576) (n4 : kp.length ≤ 1048576) (n5 : l.length ≤ 1048576) : zq805 (ps,ks) ls now o p kp l who = some (true,()):=by
 have ecp:=zq813 now h.len n1 n2 n3
 have r1 : room (lenL ([] : List Ad)) (lenL kp) = true:=zq1424 (zq993 _) (zq993 _) (by unfold lenL;simp;omega)
 have r2 : room (lenL ([] : List Ls)) (lenL l) = true:=zq1424 (zq993 _) (zq993 _) (by unfold lenL;simp;omega)
 have hlen : l.length < 9223372036854775808:=by omega
 have eDo:=zq1569 h.ps h.ks h.ls h.len now ho
 have eGr:=zq898 hp hkp.2 hl.2 hw now 5
 have eDr:=zq892 hl.2 now
 have eSt:=zq224 h.fit now
 have eSl : zq216 l l = some (true,()):=by rw [zq214 hlen,decide_eq_true rfl]
 have eSa:=zq206 (l:=kp) (by omega)
 have g3:=zq675 p kp (l:=l) (by omega) who now 5
 have g4:=zq566 (l:=l) hlen now
 unfold zq805 zq776
 rw [zq1550]
 simp only [zq415,zc10,zq443]
 rw [zq867]
 simp only [zq415,zc10,zq443]
 simp only [zq778,ecp,zq415,r1,r2,zq1400,zq570,zq441,zc41]
 rw [zq87 h.ps h.ks h.ls,zq415]
 by_cases hc : chkS ps ks ls now = 0
 rotate_left
 ·have d1 : stDo ps ks ls now o = errS (chkS ps ks ls now):=by unfold stDo;rw [if_pos hc]
  rw [d1] at eDo
  have e2 : zq856 (([] : List Pf),([] : List (List Ad))) ([] : List Ls) 0 (chkS ps ks ls now) (chkS ps ks ls now) (([] : List Pf),([] : List (List Ad))) ([] : List Ls) 0 = some (true,()):=zq854 zq615 0 _ _ _ _ _ (by rw [if_neg hc];rfl)
  have hL:=zq1439 (v0:=who) (v1:=chkS ps ks ls now) (h:=(ks,ps,ls,kp,l,(now,()),(o,()),(p.ad.v6,p.ad.hi,p.ad.lo,p.bits,()),(now,()),(p.ad.v6,p.ad.hi,p.ad.lo,p.bits,()),l,(0,()),ps,ls,kp,([] : List Pf),([] : List Ls),ks,([] : List (List Ad)),())) (fun v2 h0 h2 rec => zq1440 h2 h0 eDo e2 eGr eDr eSt eSl eSa zq615 g3 g4 rec)
  simp only [hc,decide_false,zq443]
  rw [hL]
  rfl
 ·have hok:=zq1546 h.ps h.ks h.ls h.len hc
  have d1 : stDo ps ks ls now o = doOf ps ks ls now o:=by unfold stDo;rw [if_neg (fun hh => hh hc)]
  rw [d1] at eDo
  simp only [hc,decide_true,zq445]
  rw [zq117 hok ho,zq415]
  rcases zq561 ps ks ls now o with ⟨e,he,h1⟩ | ⟨ps',ks',ls',now',a,h1⟩
  ·have e2 : zq856 (([] : List Pf),([] : List (List Ad))) ([] : List Ls) 0 e e (([] : List Pf),([] : List (List Ad))) ([] : List Ls) 0 = some (true,()):=zq854 zq615 0 _ _ _ _ _ (by rw [if_neg he];rfl)
   rw [h1] at eDo ⊢
   have hL:=zq1439 (v0:=who) (v1:=e) (h:=(ks,ps,ls,kp,l,(now,()),(o,()),(p.ad.v6,p.ad.hi,p.ad.lo,p.bits,()),(now,()),(p.ad.v6,p.ad.hi,p.ad.lo,p.bits,()),l,(0,()),ps,ls,kp,([] : List Pf),([] : List Ls),ks,([] : List (List Ad)),())) (fun v2 h0 h2 rec => zq1440 h2 h0 eDo e2 eGr eDr eSt eSl eSa zq615 g3 g4 rec)
   exact (congrArg (fun z => Option.bind z _) hL).trans rfl
  ·have hfit:=(zq560 hok ho h1).1.fit
   have e2 : zq856 (ps',ks') ls' now' 0 0 (ps',ks') ls' now' = some (true,()):=zq854 hfit now' 0 _ _ _ _ (by rw [if_pos rfl])
   rw [h1] at eDo ⊢
   have hL:=zq1439 (v0:=who) (v1:=0) (h:=(ks,ps,ls,kp,l,(now,()),(o,()),(p.ad.v6,p.ad.hi,p.ad.lo,p.bits,()),(now,()),(p.ad.v6,p.ad.hi,p.ad.lo,p.bits,()),l,(now',()),ps,ls,kp,ps',ls',ks,ks',())) (fun v2 h0 h2 rec => zq1440 h2 h0 eDo e2 eGr eDr eSt eSl eSa hfit g3 g4 rec)
   exact (congrArg (fun z => Option.bind z _) hL).trans rfl
end Go.Ma
