/-
  Parts: MaO MaT Pl Pc Pw Pf Po La Pv Lb He MaX.
-/
import Derived.Test.YtjolfddpghkabaaGreatZr2
set_option linter.unusedVariables false
set_option linter.unusedSimpArgs false
open List renaming getElem?_eq_getElem → zc0, getElem?_eq_some_iff → zc1, getD_eq_getElem?_getD → zc3, mem_of_getElem? → zc5, getElem?_append_left → zc6, getElem?_append_right → zc12, getElem?_cons_zero → zc13, all_eq_true → zc17, drop_of_length_le → zc18, length_take → zc20, length_append → zc24, take_succ_eq_append_getElem → zc26, mem_cons → zc28, mem_iff_getElem? → zc30, getElem?_cons_succ → zc35, not_mem_nil → zc37, mem_singleton → zc38, getElem?_drop → zc39, pairwise_cons → zc45, append_assoc → zc46
open Option.some renaming injEq → zc2
open Bool renaming and_eq_true → zc4, not_true → zc10, false_eq_true → zc16, not_false → zc19
open Option renaming map_eq_some_iff → zc7, bind_eq_some_iff → zc8
open Prod.mk renaming injEq → zc11
open Nat renaming le_refl → zc47
open Decidable renaming not_not → zc49
noncomputable section
namespace Go.Ma
open Go Go.RowKit
def Obj.isG : Obj → Bool
 | .ghost => true
 | _ => false
def JIn (m : Mem) (cs : List SV) (j : Nat) : Prop := j ∈ refsL cs ∨ ∃ j' ∈ refsL cs,j ∈ (m.getD j' (.dead none)).refs
def SrcB (m : Mem) (ρ : Nat → Value) (cs : List SV) (us : List Value) : Prop := ∀ u ∈ us,∀ b,b ∈ zq1429 u → ∃ j,JIn m cs j ∧ ∃ ob,m[j]? = some ob ∧ ob.live' = true ∧ ob.isG = false ∧ b ∈ ob.blocks (ρ j)
theorem zq1441 : ∀ x y : List SV,refsL (x ++ y) = refsL x ++ refsL y
 | [],_ => rfl
 | c :: r,y => by simp [refsL,zq1441 r y]
theorem JIn.left {m : Mem} {x y : List SV} {j : Nat} (h : JIn m x j) : JIn m (x ++ y) j := by
 rcases h with h | ⟨j',h1,h2⟩
 ·exact .inl (by rw [zq1441]; exact List.mem_append_left _ h)
 ·exact .inr ⟨j',by rw [zq1441]; exact List.mem_append_left _ h1,h2⟩
theorem JIn.right {m : Mem} {x y : List SV} {j : Nat} (h : JIn m y j) : JIn m (x ++ y) j := by
 rcases h with h | ⟨j',h1,h2⟩
 ·exact .inl (by rw [zq1441]; exact List.mem_append_right _ h)
 ·exact .inr ⟨j',by rw [zq1441]; exact List.mem_append_right _ h1,h2⟩
theorem SrcB.app {m : Mem} {ρ : Nat → Value} {x y : List SV} {us us' : List Value} (h : SrcB m ρ x us) (h' : SrcB m ρ y us') : SrcB m ρ (x ++ y) (us ++ us') := fun u hu b hb => by
 rcases List.mem_append.1 hu with hu | hu
 ·obtain ⟨j,h1,h2⟩ := h u hu b hb; exact ⟨j,h1.left,h2⟩
 ·obtain ⟨j,h1,h2⟩ := h' u hu b hb; exact ⟨j,h1.right,h2⟩
def noRef : PS → Bool
 | .ref _ _ => false
 | _ => true
section
variable {W : World} {ρ : Nat → Value} {m : Mem} {w : World} (hm : RelM W ρ m w)
include hm
theorem zq1495 {k : K} {c : SV} {l : List k.T} (h : rdRow m k c = some l) : SrcB m ρ [c] [den ρ c] := by
 intro u hu b hb
 simp only [zc38] at hu
 subst hu
 unfold rdRow at h
 split at h
 ·rename_i j
  split at h
  ·rename_i k' l' ty own hj
   rw [zq1496 hm hj] at hb
   exact ⟨j,.inl (by simp [refsL,SV.refs]),_,hj,rfl,rfl,zq1432 hb⟩
  ·cases h
 ·rename_i j i
  split at h
  ·rename_i k' ls ty own fr hj
   obtain ⟨vs,hv,_⟩ := hm.obj j _ hj
   refine ⟨j,.inl (by simp [refsL,SV.refs]),_,hj,rfl,rfl,zq1432 ?_⟩
   obtain ⟨_,A,cap,hρ,_⟩ := hm.inn hj i
   have hbv : zq1428 (den ρ (.inn j i)) = some b := (zq1434 (fun vs e => by rw [hρ] at e; cases e)).1 hb
   simp only [den] at hbv hρ
   rw [hv] at hbv hρ ⊢
   unfold innV at hbv hρ
   simp only at hbv hρ
   split at hbv
   ·rename_i h0
    rw [if_pos h0] at hρ
    rw [zc3] at hbv hρ
    cases hi : vs[i.toNat]? with
    | none => rw [hi] at hbv; simp [zq1583,zq1428] at hbv
    | some x =>
     rw [hi] at hbv hρ
     simp only [Option.getD_some] at hbv hρ
     have hx : zq1583 x = x := by
      unfold zq1583 at hρ ⊢
      split at hρ
      ·rfl
      ·cases hρ
     rw [hx] at hbv
     simp only [zq1429,List.mem_filterMap]
     exact ⟨x,zc5 hi,hbv⟩
   ·cases hbv
  ·cases h
 ·cases hb
 ·cases h
theorem zq1144 {hk ik : K} (ty ity : TypeId) (bo : Bool) {c : SV} {a : List hk.T × List (List ik.T)} (h : zq1430 m hk ik c = some a) (n : Nat) : ∃ vs,zq0 w ρ n [den ρ c] [.row (n + 1)] [.bag ik a.2 ity (false && bo) false,.row (.nest hk a.1 n) ty false] vs ∧ SrcB m ρ [c] vs := by
 have gen : ∀ (vb v : Value) (l : List hk.T) (ls : List (List ik.T)),den ρ c = v → zq1583 v = v → (∀ (W' : World) (ρ' : Nat → Value),ObjIs W' w ρ' vb (.bag ik ls ity false false)) → RowIs w v l.length (hk.sz + 1) (zq1130 ρ hk vb l 0) →
   ∃ vs,zq0 w ρ n [den ρ c] [.row (n + 1)] [.bag ik ls ity (false && bo) false,.row (.nest hk l n) ty false] vs ∧ vs = [vb,v] := by
  intro vb v l ls hc hs hb hr
  refine ⟨[vb,v],⟨rfl,fun ρ' hg => ?_,fun W' ρ' hg i o u hi hu => ?_,by simp [ltL,SV.lt],fun o ho => ?_⟩,rfl⟩
  ·have := hg.tail.head
   simp only [denL,den,this,hs,hc]
  ·have h0 := hg.head
   have h1 := hg.tail.head
   match i with
   | 0 =>
    simp only [zc13,zc2] at hi hu
    subst hi hu
    exact ⟨hb W' ρ',rfl⟩
   | 1 =>
    simp only [zc35,zc13,zc2] at hi hu
    subst hi hu
    refine ⟨⟨by simp [C.sz],fun u hu => ?_,?_⟩,rfl⟩
    ·exact zq1140 _ _ _ _ _ u hu
    ·rw [if_neg (by simp)]
     simp only [C.den,h0,C.n,C.sz]
     rw [zq1133 ρ ρ']
     exact hr
   | i + 2 => simp at hi
  ·simp only [zc28,zc37,or_false] at ho
   rcases ho with rfl | rfl
   ·rfl
   ·simp [Obj.lt,C.lt]
 unfold zq1430 at h
 split at h
 ·rename_i j
  split at h
  ·rename_i k l jb ty' own hj
   split at h
   ·rename_i k' ls ity' own' fr' hjb
    split at h
    ·rename_i hh
     obtain ⟨h1,h2⟩ := hh
     subst h1 h2
     injection h with h
     subst h
     obtain ⟨_,A,cap,hρ,_⟩ := RelM.row hm hj
     obtain ⟨vs,g1,rfl⟩ := gen (ρ jb) (ρ j) l ls (zq1496 hm hj) (by rw [hρ]; rfl) (fun W' ρ' => by
      obtain ⟨vs,g1,g2,g3,g4,_⟩ := (hm.obj jb _ hjb).shut
      refine ⟨vs,g1,g2,fun i x l' hi hl => ?_,(fun h => by cases h),fun h => by cases h⟩
      have e : (C.ty k' l').den ρ' = (C.ty k' l').den ρ := by simp only [C.den]; congr 1; funext a; exact zq532 ρ ρ' k' a
      rw [e]
      exact g3 i x l' hi hl) (hm.rowIs hj)
     refine ⟨_,g1,fun u hu b hb => ?_⟩
     simp only [zc28,zc37,or_false] at hu
     rcases hu with rfl | rfl
     ·exact ⟨jb,.inr ⟨j,by simp [refsL,SV.refs],by rw [zc3,hj]; simp [Obj.refs]⟩,_,hjb,rfl,rfl,zq1432 hb⟩
     ·exact ⟨j,.inl (by simp [refsL,SV.refs]),_,hj,rfl,rfl,zq1432 hb⟩
    ·cases h
   ·cases h
  ·cases h
 ·injection h with h
  subst h
  obtain ⟨vs,g1,rfl⟩ := gen (.tuple #[]) (.slice none 0 0) [] [] rfl rfl (fun W' ρ' => ⟨[],rfl,rfl,(fun i x l' h => by simp at h),(fun h => by cases h),fun h => by cases h⟩) ⟨by simp [zq1130],none,0,rfl,zc47 _,by unfold maxLen; omega,fun _ => rfl,fun _ h => by cases h⟩
  refine ⟨_,g1,fun u hu b hb => ?_⟩
  simp only [zc28,zc37,or_false] at hu
  rcases hu with rfl | rfl <;> simp [zq1429,zq1428] at hb
 ·cases h
theorem zq522 : ∀ (l : List Seg) (cs : List SV) (x : SegsT l) (n : Nat),zq520 m l cs = some x → ∃ vs,zq0 w ρ n (denL ρ cs) (zq571 false l x n).1 (zq571 false l x n).2 vs ∧ SrcB m ρ cs vs
 | [],[],x,n,_ => ⟨[],zq0.nil w ρ n,fun u hu => (by cases hu)⟩
 | [],_ :: _,x,n,h => by simp [zq520] at h
 | .fl k :: r,cs,x,n,h => by
  simp only [zq520] at h
  split at h
  ·rename_i a b ha hb
   injection h with h
   subst h
   obtain ⟨h1,_⟩ := zq523 k _ a ha
   obtain ⟨vs,hv,hs⟩ := zq522 r _ b n hb
   have h0 : zq0 w ρ n (denL ρ (cs.take k.sz)) (k.enc a) [] [] := ⟨rfl,fun ρ' _ => by rw [h1]; exact zq532 ρ ρ' k a,fun _ _ _ i o v h => by simp at h,zq573 k a _,fun o h => by cases h⟩
   refine ⟨vs,?_,?_⟩
   ·have this := h0.app hv
    have e : denL ρ (cs.take k.sz) ++ denL ρ (cs.drop k.sz) = denL ρ cs := by
     rw [zq534,zq534,← List.map_append,List.take_append_drop,← zq534]
    rw [e] at this
    exact this
   ·intro u hu b hb
    obtain ⟨j,q1,q2⟩ := hs u hu b hb
    have := q1.right (x := cs.take k.sz)
    rw [List.take_append_drop] at this
    exact ⟨j,this,q2⟩
  ·cases h
 | .row _ _ :: _,[],x,n,h => by simp [zq520] at h
 | .row k ty :: r,c :: cs,x,n,h => by
  simp only [zq520] at h
  split at h
  ·rename_i a b ha hb
   injection h with h
   subst h
   obtain ⟨hrow,A,N,cap,hs⟩ := zq1431 hm ha
   obtain ⟨vs,hv,hsr⟩ := zq522 r _ b (n + 1) hb
   have h0 : zq0 w ρ n [den ρ c] [.row n] [.row (.ty k a) ty false] [den ρ c] := by
    refine ⟨rfl,fun ρ' hg => by simp [denL,den,hg.head,hs,zq1583],fun W' ρ' hg i o v hi hv => ?_,by simp [ltL,SV.lt],fun o ho => by simp at ho; subst ho; rfl⟩
    cases i with
    | zero =>
     simp only [zc13,zc2] at hi hv
     subst hi hv
     exact ⟨zq1492 ty hrow,rfl⟩
    | succ i => simp at hi
   exact ⟨den ρ c :: vs,h0.app hv,(zq1495 hm ha).app (x := [c]) (y := cs) hsr⟩
  ·cases h
 | .nest _ _ _ _ _ :: _,[],x,n,h => by simp [zq520] at h
 | .nest hk ik ty ity bo :: r,c :: cs,x,n,h => by
  simp only [zq520] at h
  split at h
  ·rename_i a b ha hb
   injection h with h
   subst h
   obtain ⟨vs0,h0,hs0⟩ := zq1144 hm ty ity bo ha n
   obtain ⟨vs,hv,hs⟩ := zq522 r _ b (n + 2) hb
   exact ⟨vs0 ++ vs,h0.app hv,hs0.app (x := [c]) (y := cs) hs⟩
  ·cases h
theorem zq519 (p : PS) (hp : noRef p = true) (v : SV) (x : p.T) (n : Nat) (h : decP m p v = some x) : ∃ vs,zq0 w ρ n [den ρ v] [(encP false p x n).1] (encP false p x n).2 vs ∧ SrcB m ρ [v] vs := by
 cases p with
 | one s =>
  cases s with
  | fl k =>
   obtain ⟨vs,hv⟩ := zq518 hm (.one (.fl k)) v x n h
   refine ⟨vs,hv,fun u hu => ?_⟩
   have := hv.len
   have h0 : (encP false (PS.one (.fl k)) x n).2 = [] := rfl
   rw [h0] at this
   rw [List.eq_nil_of_length_eq_zero this] at hu
   cases hu
  | row k ty =>
   have hx : rdRow m k v = some x := h
   obtain ⟨hrow,A,N,cap,hs⟩ := zq1431 hm hx
   refine ⟨[den ρ v],⟨rfl,fun ρ' hg => by simp [encP,zq570,denL,den,hg.head,hs,zq1583],fun W' ρ' hg i o u hi hv => ?_,by simp [encP,zq570,ltL,SV.lt],fun o ho => ?_⟩,zq1495 hm hx⟩
   rotate_left
   ·have ho : o ∈ [Obj.row (.ty k x) ty false] := ho
    simp only [zc38] at ho
    subst ho
    rfl
   have hi : [Obj.row (.ty k x) ty false][i]? = some o := hi
   cases i with
   | zero =>
    simp only [zc13,zc2] at hi hv
    subst hi hv
    exact ⟨zq1492 ty hrow,rfl⟩
   | succ i => simp at hi
  | nest hk ik ty ity bo =>
   have hx : zq1430 m hk ik v = some x := h
   exact zq1144 hm ty ity bo hx n
 | agg l =>
  have hx : v.parts.bind (zq520 m l) = some x := h
  obtain ⟨cs,hp,hx⟩ := zc8.1 hx
  unfold SV.parts at hp
  split at hp
  ·injection hp with hp
   subst hp
   obtain ⟨vs,hv,hs⟩ := zq522 hm _ _ _ n hx
   refine ⟨vs,⟨hv.len,fun ρ' hg => ?_,hv.obj,?_,hv.lt.2⟩,fun u hu b hb => ?_⟩
   ·have := hv.den ρ' hg
    simp only [encP,denL,den,this]
   ·simpa [encP,ltL,SV.lt] using hv.lt.1
   ·obtain ⟨j,q1,q2⟩ := hs u hu b hb
    exact ⟨j,by simpa [JIn,refsL,SV.refs] using q1,q2⟩
  ·cases hp
 | ref l ty => cases hp
theorem zq509 : ∀ (ps : List PS) (vs : List SV) (x : PsT ps) (n : Nat),ps.all noRef = true → decA m ps vs = some x → ∃ us,zq0 w ρ n (denL ρ vs) (encA false ps x n).1 (encA false ps x n).2 us ∧ SrcB m ρ vs us
 | [],[],x,n,_,_ => ⟨[],zq0.nil w ρ n,fun u hu => (by cases hu)⟩
 | [],_ :: _,x,n,_,h => by simp [decA] at h
 | _ :: _,[],x,n,_,h => by simp [decA] at h
 | p :: r,v :: vs,x,n,hp,h => by
  simp only [List.all_cons,zc4] at hp
  simp only [decA] at h
  split at h
  ·rename_i a b ha hb
   injection h with h
   subst h
   obtain ⟨us,hu,hs⟩ := zq519 hm p hp.1 v a n ha
   obtain ⟨us',hu',hs'⟩ := zq509 r vs b (n + (encP false p a n).2.length) hp.2 hb
   exact ⟨us ++ us',hu.app hu',hs.app (x := [v]) (y := vs) hs'⟩
  ·cases h
end
theorem RelM.pushR {W : World} {ρ : Nat → Value} {m : Mem} {w w' : World} (h : RelM W ρ m w) (hb : Below w.heap.size w w') {os : Mem} {us : List Value} (hlen : us.length = os.length)
  (ho : ∀ (i : Nat) (o : Obj) (v : Value),os[i]? = some o → us[i]? = some v → (∀ ρ',Gives ρ' m.length us → ObjIs W w' ρ' v o) ∧ o.mutB = false ∧ o.lt (m.length + os.length) = true ∧ ∀ (q : Nat) (oq : Obj),m[q]? = some oq → oq.mutB = true → ∀ b,b ∈ zq1797 (ρ q) → b ∉ o.blocks v) :
  ∃ ρ',Agree m.length ρ ρ' ∧ Gives ρ' m.length us ∧ RelM W ρ' (m ++ os) w' := by
 obtain ⟨ρ',hρ'⟩ : ∃ ρ' : Nat → Value,ρ' = fun j => if j < m.length then ρ j else us.getD (j - m.length) Go.undef := ⟨_,rfl⟩
 have ha : Agree m.length ρ ρ' := fun j hj => by rw [hρ']; simp [hj]
 have hg : Gives ρ' m.length us := fun i v hi => by
  rw [hρ']
  show (if m.length + i < m.length then _ else us.getD (m.length + i - m.length) Go.undef) = v
  rw [if_neg (by omega),show m.length + i - m.length = i by omega,zc3,hi]
  rfl
 have hk := h.later hb
 have key : ∀ {k : Nat} {o : Obj},(m ++ os)[k]? = some o → (k < m.length ∧ m[k]? = some o) ∨ (∃ i v,k = m.length + i ∧ os[i]? = some o ∧ us[i]? = some v ∧ ρ' k = v) := by
  intro k o hk
  by_cases hlt : k < m.length
  ·rw [zc6 hlt] at hk; exact .inl ⟨hlt,hk⟩
  ·rw [zc12 (by omega)] at hk
   have hl := (zc1.1 hk).1
   have hv : us[k - m.length]? = some (us[k - m.length]'(by rw [hlen]; exact hl)) := zc0 _
   have := hg _ _ hv
   rw [show m.length + (k - m.length) = k by omega] at this
   exact .inr ⟨k - m.length,_,by omega,hk,hv,this⟩
 refine ⟨ρ',ha,hg,hk.below,fun j o hj => ?_,fun i j o1 o2 hij hi hj hmu hdd b hbi hbj => ?_,fun j o hj => ?_⟩
 ·rcases key hj with ⟨hlt,hj⟩ | ⟨i,v,rfl,hi,hv,hr⟩
  ·rw [ha j hlt]
   exact (hk.obj j o hj).agree ha (h.lt j o hj)
  ·rw [hr]
   exact (ho i o v hi hv).1 ρ' hg
 ·rcases key hi with ⟨hil,hi⟩ | ⟨i',v,rfl,hi,hv,hr⟩
  ·rcases key hj with ⟨hjl,hj⟩ | ⟨j',v',rfl,hj,hv',hr'⟩
   ·rw [ha i hil] at hbi
    rw [ha j hjl] at hbj
    exact h.sep i j o1 o2 hij hi hj hmu hdd b hbi hbj
   ·rw [ha i hil] at hbi
    rw [hr'] at hbj
    exact (ho j' o2 v' hj hv').2.2.2 i o1 hi hmu b hbi hbj
  ·rw [(ho i' o1 v hi hv).2.1] at hmu
   cases hmu
 ·rcases key hj with ⟨hlt,hj⟩ | ⟨i,v,rfl,hi,hv,hr⟩
  ·exact Obj.lt_mono (by simp) o (h.lt j o hj)
  ·rw [zc24]; exact (ho i o v hi hv).2.2.1
def roJ (m : Mem) (cs : List SV) : Bool := (refsL cs ++ (refsL cs).flatMap fun j => (m.getD j (.dead none)).refs).all fun j => !(m.getD j (.dead none)).mutB
def zq712 (n : Nat) (m : Mem) : Bool := match m[n]? with | some .ghost => true | _ => false
def encRL (ps : List PS) (y : PsT ps) (n : Nat) : SV := bif ps.length == 1 then ((encA false ps y n).1).headD .any else .tup (encA false ps y n).1
def resL1 (ps : List PS) (v : SV) (m : Mem) : Option (PsT ps) := bif ps.length == 1 then decA m ps [v] else (tupOf v).bind (decA m ps)
def resRL (ps : List PS) (n0 : Nat) (v : SV) (m : Mem) : Option (PsT ps) := bif zq712 n0 m then resL1 ps v m else none
def zq914 (ps rs : List PS) (t : PsT ps → Option (PsT rs)) : Tr := fun _ args m k =>
 (decA m ps args).bind fun x => req (roJ m args) ((t x).bind fun y => k (encRL rs y m.length) (m ++ (encA false rs y m.length).2))
def lcon (ps rs : List PS) (t : PsT ps → Option (PsT rs)) : Con := { tr := zq914 ps rs t,q := false,law := true }
theorem roJ_ok {m : Mem} {cs : List SV} (h : roJ m cs = true) {j : Nat} (hj : JIn m cs j) : (m.getD j (.dead none)).mutB = false := by
 have := zc17.1 h j (by
  rcases hj with hj | ⟨j',h1,h2⟩
  ·exact List.mem_append_left _ hj
  ·exact List.mem_append_right _ (List.mem_flatMap.2 ⟨j',h1,h2⟩))
 simpa using this
theorem zq1469 {W : World} {ρ : Nat → Value} {m : Mem} {w : World} (hm : RelM W ρ m w) {rs : List PS} (hn : rs.all noRef = true) {v : SV} {y : PsT rs} (h : resL1 rs v m = some y) (n : Nat) :
  ∃ vals us cs,zq0 w ρ n vals (encA false rs y n).1 (encA false rs y n).2 us ∧ SrcB m ρ cs us ∧ den ρ v = (if rs.length = 1 then vals.headD Go.undef else .tuple vals.toArray) := by
 unfold resL1 at h
 by_cases h1 : rs.length = 1
 ·rw [show (rs.length == 1) = true by simpa using h1] at h
  simp only [cond_true] at h
  obtain ⟨us,hu,hs⟩ := zq509 hm rs [v] y n hn h
  exact ⟨_,us,_,hu,hs,by rw [if_pos h1]; rfl⟩
 ·rw [show (rs.length == 1) = false by simpa using h1] at h
  simp only [cond_false] at h
  obtain ⟨l,hl,ha⟩ := zc8.1 h
  unfold tupOf at hl
  split at hl
  ·injection hl with hl
   subst hl
   obtain ⟨us,hu,hs⟩ := zq509 hm rs _ y n hn ha
   exact ⟨_,us,_,hu,hs,by rw [if_neg h1]; rfl⟩
  ·cases hl
theorem zq567 {rs : List PS} {y : PsT rs} {n : Nat} {ρ' : Nat → Value} {vals : List Value} {v : Value} (h : denL ρ' (encA false rs y n).1 = vals) (hv : v = if rs.length = 1 then vals.headD Go.undef else .tuple vals.toArray) : den ρ' (encRL rs y n) = v := by
 have hlen := zq558 false rs y n
 unfold encRL
 rw [hv]
 by_cases h1 : rs.length = 1
 ·rw [if_pos h1,show (rs.length == 1) = true by simpa using h1]
  simp only [cond_true]
  rw [h1] at hlen
  match hx : (encA false rs y n).1,hlen with
  | [c],_ =>
   rw [hx] at h
   rw [← h]
   rfl
 ·rw [if_neg h1,show (rs.length == 1) = false by simpa using h1]
  simp only [cond_false,den,h]
theorem zq716 (n : Nat) (vs : List Value) : Gives (fun j => vs.getD (j - n) Go.undef) n vs := fun i v hi => by
 show vs.getD (n + i - n) Go.undef = v
 rw [show n + i - n = i by omega,zc3,hi]
 rfl
theorem zq915 {P : Program} {E : Env} (hE : EnvOk P E) {f : FuncId} {fn : Func} (hf : P.funcs[f]? = some fn) (hl : ∀ c,fn.body = some c → zq6 P E c) (ps rs : List PS) (hps : ps.all noRef = true) (hrs : rs.all noRef = true) (t : PsT ps → Option (PsT rs))
  (h : ∀ x,ixF E fn (encA false ps x 0).1 ((encA false ps x 0).2 ++ [.ghost]) (resRL rs (encA false ps x 0).2.length) = t x) : TrOk P f (lcon ps rs t) := by
 have main : ∀ {W : World},Glob P W → ∀ {args : List SV} {m : Mem} {x : PsT ps} {y : PsT rs},decA m ps args = some x → roJ m args = true → t x = some y → ∀ ρ w,RelM W ρ m w →
   Calls P f (denL ρ args).toArray w fun e w' => ∃ ρ',e = .returned (den ρ' (encRL rs y m.length)) ∧ RelM W ρ' (m ++ (encA false rs y m.length).2) w' ∧ Agree m.length ρ ρ' ∧ (encRL rs y m.length).lt (m ++ (encA false rs y m.length).2).length = true := by
  intro W hG args m x y hx hro hy ρ w hm
  obtain ⟨us,hu,hsrc⟩ := zq509 hm ps args x 0 hps hx
  -- what is somebody else's
  let B : List Nat := (List.range m.length).flatMap fun i => if (m.getD i (.dead none)).mutB then zq1797 (ρ i) else []
  let gv : Value := .tuple (B.map fun b => Value.pointer (some ⟨b,0,none⟩)).toArray
  have hB : ∀ b,b ∈ zq1797 gv ↔ b ∈ B := fun b => by simp [gv,zq1797,zq1796,List.filterMap_map,Function.comp_def]
  have hBm : ∀ b,b ∈ B ↔ ∃ (i : Nat) (o : Obj),m[i]? = some o ∧ o.mutB = true ∧ b ∈ zq1797 (ρ i) := fun b => by
   simp only [B,List.mem_flatMap,List.mem_range]
   constructor
   ·rintro ⟨i,hi,hb⟩
    split at hb
    ·rename_i hmu
     rw [zc3,zc0 hi] at hmu
     exact ⟨i,_,zc0 hi,hmu,hb⟩
    ·cases hb
   ·rintro ⟨i,o,hi,hmu,hb⟩
    refine ⟨i,(zc1.1 hi).1,?_⟩
    rw [zc3,hi]
    simp only [Option.getD_some,hmu,if_true]
    exact hb
  have hrel0 := hu.rel
  have hnm : ∀ (i : Nat) (oi : Obj),(encA false ps x 0).2[i]? = some oi → oi.mutB = false ∧ ∃ v,us[i]? = some v ∧ zq1128 us i = v := fun i oi hi => by
   obtain ⟨v,hv⟩ : ∃ v,us[i]? = some v := by
    have hl := (zc1.1 hi).1
    exact ⟨us[i]'(by rw [hu.len]; exact hl),zc0 _⟩
   exact ⟨(hu.obj w (zq1128 us) (zq717 us) i oi v hi hv).2,v,hv,by simp [zq1128,zc3,hv]⟩
  have hrel := hrel0.pushG (o := .ghost) (v := gv) (Below.refl _ _) (fun b hb => by
    obtain ⟨i,o,hi,hmu,hb⟩ := (hBm b).1 ((hB b).1 hb)
    exact ObjIs.lt_heap (by rw [zq347 hmu]; exact hb) (zq1127 hmu) (hm.obj i o hi)) rfl (fun i oi hi hmu => by
    rw [(hnm i oi hi).1] at hmu; cases hmu) (fun _ i oi hi hlv b hb hb2 => by
    obtain ⟨q1,v,hv,hn⟩ := hnm i oi hi
    rw [hn] at hb2
    have hb2 : b ∈ zq1429 v := by simpa [Obj.blocks,q1] using hb2
    obtain ⟨j,hj,ob,hmj,hol,_,hbj⟩ := hsrc v (zc5 hv) b hb2
    obtain ⟨i',o',hi',hmu',hb'⟩ := (hBm b).1 ((hB b).1 hb)
    have hnmu := roJ_ok hro hj
    rw [zc3,hmj] at hnmu
    exact hm.sep i' j o' ob (fun e => by subst e; rw [hi'] at hmj; injection hmj with hmj; subst hmj; rw [show (some o').getD (Obj.dead none) = o' from rfl,hmu'] at hnmu; cases hnmu) hi' hmj hmu' (zq1000.2 hol) b hb' hbj)
  have hgv : Gives (upd (zq1128 us) (encA false ps x 0).2.length gv) 0 us := fun i v hi => by
   have hil : i < us.length := (zc1.1 hi).1
   rw [zq1793 (zq1128 us) _ gv (0 + i) (by rw [← hu.len]; omega)]
   exact zq717 us i v hi
  have hden := hu.den _ hgv
  have hcall := zq371 (m := (encA false ps x 0).2 ++ [.ghost]) (W := w) ⟨hE,hG.mono hm.below⟩ hf hl (zq1098 (by simp) _ hu.lt.1) ((h x).trans hy) hrel
  rw [hden] at hcall
  refine hcall.mono ?_
  rintro e w' ⟨ρc,r,m',rfl,hm',hag,_,_,hres⟩
  unfold resRL at hres
  cases hga : zq712 (encA false ps x 0).2.length m'
  ·rw [hga] at hres; cases hres
  rw [hga] at hres
  have hgo : m'[(encA false ps x 0).2.length]? = some .ghost := by
   unfold zq712 at hga
   split at hga
   ·assumption
   ·cases hga
  obtain ⟨vals,vs,cs,hr,hsr,hv⟩ := zq1469 hm' hrs hres m.length
  have hρg : ρc (encA false ps x 0).2.length = gv := by rw [hag _ (by simp),zq1795]
  obtain ⟨ρ',hag',hg,hpush⟩ := hm.pushR hm'.below hr.len (fun i o v hi hv => by
   have hx := fun ρ' hg => hr.obj W ρ' hg i o v hi hv
   refine ⟨fun ρ' hg => (hx ρ' hg).1,?_,hr.lt.2 o (zc5 hi),fun q oq hq hmu b hb hb2 => ?_⟩
   ·exact (hx _ (zq716 m.length vs)).2
   ·have hmo : o.mutB = false := (hx _ (zq716 m.length vs)).2
    have hb2 : b ∈ zq1429 v := by simpa [Obj.blocks,hmo] using hb2
    obtain ⟨j,_,ob,hmj,hol,hgn,hbj⟩ := hsr v (zc5 hv) b hb2
    refine hm'.sep _ j .ghost ob (fun e => ?_) hgo hmj rfl (zq1000.2 hol) b (by rw [hρg]; exact (hB b).2 ((hBm b).2 ⟨q,oq,hq,hmu,hb⟩)) hbj
    rw [← e,hgo] at hmj
    injection hmj with hmj
    subst hmj
    cases hgn)
  refine ⟨ρ',?_,hpush,hag',?_⟩
  ·rw [zq567 (hr.den ρ' hg) hv]
  ·have hlt := hr.lt.1
   rw [zc24]
   unfold encRL
   by_cases h1 : rs.length = 1
   ·rw [show (rs.length == 1) = true by simpa using h1]
    simp only [cond_true]
    have hlen := zq558 false rs y m.length
    rw [h1] at hlen
    match hx : (encA false rs y m.length).1,hlen with
    | [c],_ =>
     rw [hx] at hlt
     simpa [ltL] using hlt
   ·rw [show (rs.length == 1) = false by simpa using h1]
    simpa only [cond_false,SV.lt] using hlt
 refine ⟨fun W hG X args m k x hk hany => ⟨fun hlt ρ w hm => ?_⟩,(fun hq => by cases hq),fun _ X args m k x hk => ?_⟩
 ·simp only [lcon,zq914] at hk
  obtain ⟨a,ha,hk⟩ := zc8.1 hk
  obtain ⟨hro,hk⟩ := zq1464 hk
  obtain ⟨y,hy,hk⟩ := zc8.1 hk
  refine (main hG ha hro hy ρ w hm).mono ?_
  rintro e w' ⟨ρ',rfl,hm',hag,hl'⟩
  exact ⟨ρ',_,_,rfl,hm',hag,by simp,fun _ => hl',hk⟩
 ·simp only [lcon,zq914] at hk ⊢
  obtain ⟨a,ha,hk⟩ := zc8.1 hk
  obtain ⟨hro,hk⟩ := zq1464 hk
  obtain ⟨y,hy,hk⟩ := zc8.1 hk
  exact ⟨_,_,by rw [ha,Option.bind_some,hro]; simp only [req]; rw [hy,Option.bind_some],hk,fun _ => ⟨_,rfl⟩⟩
end Go.Ma
namespace Go.Ma
open Go Go.RowKit
def takeA (args : List SV) (m : Mem) : Option (Bool × List SV × Mem) :=
 match args with
 | .inn jb i :: r => (takeM m jb i).map fun m' => (decide (0 ≤ i),.row (m.length + 1) :: r,m')
 | _ => none
def zq1769 (g : Con) : Con :=
 {tr := fun X args m k => match takeA args m with
   | some (c,args',m') => req c (g.tr X args' m' k)
   | none => g.tr X args m k
  q := false,law := false,det := g.det }
theorem zq1770 {P : Program} {f : FuncId} {g : Con} (h : TrOk P f g) : TrOk P f (zq1769 g) := by
 refine ⟨fun W hG X args m k x hk hany => ⟨fun hlt ρ w hm => ?_⟩,(fun hq => by cases hq),fun hd X args m k x hk => ?_⟩
 ·simp only [zq1769] at hk
  cases ht : takeA args m with
  | none =>
   rw [ht] at hk
   exact (h.1 W hG X args m k x hk hany).call hlt ρ w hm
  | some z =>
   obtain ⟨c,args',m'⟩ := z
   rw [ht] at hk
   simp only at hk
   obtain ⟨hc,hk2⟩ := zq1464 hk
   clear hk
   unfold takeA at ht
   split at ht
   ·rename_i jb i r
    obtain ⟨m2,hm2,he⟩ := zc7.1 ht
    simp only [zc11] at he
    obtain ⟨rfl,rfl,rfl⟩ := he
    obtain ⟨ρ1,h1,h2,h3,h4⟩ := zq1773 hm (by simpa using hc) hm2
    simp only [ltL,zc4] at hlt
    have hcall := (h.1 W hG X _ m2 k x hk2 (by simpa [SV.isAny] using hany)).call (by
     simp only [ltL,zc4,SV.lt,decide_eq_true_eq]
     exact ⟨by omega,zq1098 (by omega) r hlt.2⟩) ρ1 w h1
    have hden : denL ρ1 (.row (m.length + 1) :: r) = denL ρ (.inn jb i :: r) := by
     simp only [denL]
     rw [h4,zq531 h2 r hlt.2]
    rw [hden] at hcall
    refine hcall.mono ?_
    rintro e w' ⟨ρ',r',m',rfl,hm',hag,hle,hrl,hk'⟩
    exact ⟨ρ',r',m',rfl,hm',h2.trans hag (by omega),by omega,hrl,hk'⟩
   ·cases ht
 ·simp only [zq1769] at hk ⊢
  cases ht : takeA args m with
  | none =>
   rw [ht] at hk
   obtain ⟨r,m',h1,h2,_⟩ := h.2.2 hd X args m k x hk
   exact ⟨r,m',h1,h2,fun hl => by cases hl⟩
  | some z =>
   obtain ⟨c,args',m'⟩ := z
   rw [ht] at hk
   simp only at hk ⊢
   obtain ⟨hc,hk⟩ := zq1464 hk
   obtain ⟨r,m2,h1,h2,_⟩ := h.2.2 hd X args' m' k x hk
   exact ⟨r,m2,by rw [hc]; exact h1,h2,fun hl => by cases hl⟩
def delL {α : Type} (l : List α) (a b : Int) : List α := l.take a.toNat ++ l.drop b.toNat
def zq524 (k : K) (e : TypeId) (args : List SV) (m : Mem) : Option (Nat × List k.T × Int × Int) :=
 match args with
 | [.row j,.i .i64 a,.i .i64 b] => (match m[j]? with | some (.row (.ty k1 l) bt true) => if h : k1 = k then (if bt == e then some (j,castL h l,a,b) else none) else none | _ => none)
 | _ => none
def zq526 (k : K) (e : TypeId) : Con :=
 {tr := fun _ args m kk => match zq524 k e args m with
   | some (j,l,a,b) => req (decide (0 ≤ a) && decide (a ≤ b) && decide (b ≤ lenL l)) (kk (.row m.length) (m.set j (.dead none) ++ [.row (.ty k (delL l a b)) e true]))
   | none => none
  q := false,law := false,det := true }
theorem zq525 {k : K} {e : TypeId} {args : List SV} {m : Mem} {j : Nat} {l : List k.T} {a b : Int} (h : zq524 k e args m = some (j,l,a,b)) : args = [.row j,.i .i64 a,.i .i64 b] ∧ m[j]? = some (.row (.ty k l) e true) := by
 unfold zq524 at h
 split at h
 ·split at h
  ·rename_i hj
   split at h
   ·rename_i hk
    subst hk
    split at h
    ·rename_i hb
     simp only [beq_iff_eq] at hb
     subst hb
     simp only [zc2,zc11] at h
     obtain ⟨rfl,rfl,rfl,rfl⟩ := h
     exact ⟨rfl,hj⟩
    ·cases h
   ·cases h
  ·cases h
 ·cases h
theorem del_ok {P : Program} {f : FuncId} (k : K) (e : TypeId)
  (h : ∀ (base : Nat) (w : World) (v : Value) (n i j : Nat) (cs : List Value),w.ownsRow base e k.sz v n cs → (∀ x ∈ cs,oneC x = true) → base ≤ w.heap.size → i ≤ j → j ≤ n →
   Calls P f #[v,.int .i64 (i : Int),.int .i64 (j : Int)] w fun r w' => ∃ v',r = .returned v' ∧ w'.ownsRow base e k.sz v' (n - (j - i)) (cs.take (i * k.sz) ++ cs.drop (j * k.sz)) ∧ w.grownBy w' v.ownBlock ∧ (∀ b,v'.ownBlock = some b → v.ownBlock = some b ∨ w.heap.size ≤ b)) : TrOk P f (zq526 k e) := by
 have inv : ∀ {X : Type} {args : List SV} {m : Mem} {kk : SV → Mem → Option X} {x : X},(zq526 k e).tr X args m kk = some x → ∃ (j : Nat) (l : List k.T) (a b : Int),zq524 k e args m = some (j,l,a,b) ∧ 0 ≤ a ∧ a ≤ b ∧ b ≤ lenL l ∧ kk (.row m.length) (m.set j (.dead none) ++ [.row (.ty k (delL l a b)) e true]) = some x := by
  intro X args m kk x hk
  simp only [zq526] at hk
  split at hk
  ·rename_i j l a b ha
   obtain ⟨h1,h2⟩ := zq1464 hk
   simp only [zc4,decide_eq_true_eq] at h1
   exact ⟨j,l,a,b,ha,h1.1.1,h1.1.2,h1.2,h2⟩
  ·cases hk
 refine ⟨fun W _ X args m kk x hk _ => ⟨fun _ ρ w hm => ?_⟩,(fun hq => by cases hq),fun _ X args m kk x hk => ?_⟩
 ·obtain ⟨j,l,a,b,ha,h0,hab,hbl,hk2⟩ := inv hk
  clear hk
  obtain ⟨rfl,hj⟩ := zq525 ha
  obtain ⟨_,hc1,ho1⟩ := hm.obj j _ hj
  rw [if_pos rfl] at ho1
  have hd1 : den ρ (.row j) = ρ j := zq1496 hm hj
  have e1 : ((a.toNat : Nat) : Int) = a := Int.toNat_of_nonneg h0
  have e2 : ((b.toNat : Nat) : Int) = b := Int.toNat_of_nonneg (by omega)
  have hbn : b.toNat ≤ l.length := by unfold lenL at hbl; omega
  have := h W.heap.size w (ρ j) l.length a.toNat b.toNat _ ho1 hc1 hm.below.size (by omega) hbn
  rw [e1,e2] at this
  have ed : (denL ρ [.row j,.i .i64 a,.i .i64 b]).toArray = #[ρ j,.int .i64 a,.int .i64 b] := by
   show #[den ρ (.row j),.int .i64 a,.int .i64 b] = _
   rw [hd1]
  rw [ed]
  refine this.mono ?_
  rintro r w' ⟨v',rfl,hown,hgb,hblk⟩
  have hcells : (C.ty k l).den ρ = l.flatMap fun a => denL ρ (k.enc a) := rfl
  rw [hcells] at hown
  have hfl : (l.flatMap fun a => denL ρ (k.enc a)).take (a.toNat * k.sz) ++ (l.flatMap fun a => denL ρ (k.enc a)).drop (b.toNat * k.sz) = (delL l a b).flatMap fun a => denL ρ (k.enc a) := by
   unfold delL
   rw [← zq685,← zq677,List.flatMap_append]
  rw [hfl] at hown
  have hlen : (delL l a b).length = l.length - (b.toNat - a.toNat) := by unfold delL; simp; omega
  rw [← hlen] at hown
  obtain ⟨hm',hv⟩ := hm.replaced hj (l := delL l a b) hown hgb hblk
  exact ⟨upd ρ m.length v',.row m.length,_,congrArg Ending.returned hv,hm',zq1793 _ _ _,by simp,fun _ => by simp [SV.lt],hk2⟩
 ·obtain ⟨j,l,a,b,ha,h0,hab,hbl,hk⟩ := inv hk
  refine ⟨.row m.length,_,?_,hk,fun hl => by cases hl⟩
  simp only [zq526,ha]
  rw [show (decide (0 ≤ a) && decide (a ≤ b) && decide (b ≤ lenL l)) = true by simp [h0,hab,hbl]]
  rfl
def zq1259 (m : Mem) (hk ik : K) (e ity : TypeId) (j : Nat) : Option (List hk.T × List (List ik.T) × Nat) :=
 match m[j]? with
 | some (.row (.nest hk' l jb) ty true) =>
  (match m[jb]? with
  | some (.bag ik' ls ity' true _) => if h : hk' = hk ∧ ik' = ik then (if ty == e && ity' == ity then some (castL h.1 l,zq372 h.2 ls,jb) else none) else none
  | _ => none)
 | _ => none
theorem zq1260 {m : Mem} {hk ik : K} {e ity : TypeId} {j : Nat} {l : List hk.T} {ls : List (List ik.T)} {jb : Nat} (h : zq1259 m hk ik e ity j = some (l,ls,jb)) : ∃ fr,m[j]? = some (.row (.nest hk l jb) e true) ∧ m[jb]? = some (.bag ik ls ity true fr) := by
 unfold zq1259 at h
 split at h
 ·rename_i hj
  split at h
  ·rename_i hjb
   split at h
   ·rename_i hh
    obtain ⟨h1,h2⟩ := hh
    subst h1 h2
    split at h
    ·rename_i hc
     simp only [zc4,beq_iff_eq] at hc
     obtain ⟨rfl,rfl⟩ := hc
     simp only [zc2,zc11] at h
     obtain ⟨rfl,rfl,rfl⟩ := h
     exact ⟨_,hj,hjb⟩
    ·cases h
   ·cases h
  ·cases h
 ·cases h
def zq770 (hk ik : K) (e ity : TypeId) (args : List SV) (m : Mem) : Option (Nat × List hk.T × List (List ik.T) × Nat × Int × hk.T × List ik.T × Nat) :=
 match args with
 | [.row j,.i .i64 n,.row jv] =>
  (match zq1259 m hk ik e ity j,zq1259 m hk ik e ity jv with
  | some (l,ls,ja),some ([x],[y],jb) => if j != jv && ja != jb then some (j,l,ls,ja,n,x,y,jb) else none
  | _,_ => none)
 | _ => none
def zq772 (hk ik : K) (e ity : TypeId) (m : Mem) (j : Nat) (l : List hk.T) (ls : List (List ik.T)) (ja : Nat) (n : Int) (x : hk.T) (y : List ik.T) (jb : Nat) : Mem :=
 killO (goneL true [ja,jb] m ++ [.bag ik (insL (padL l.length ls) n y) ity true true]) (some j) ++ [.row (.nest hk (insL l n x) m.length) e true]
def zq771 (hk ik : K) (e ity : TypeId) : Con :=
 {tr := fun _ args m kk => match zq770 hk ik e ity args m with
   | some (j,l,ls,ja,n,x,y,jb) => req (decide (0 ≤ n) && decide (n ≤ lenL l) && room (lenL l) 1) (kk (.row (m.length + 1)) (zq772 hk ik e ity m j l ls ja n x y jb))
   | none => none
  q := false,law := false,det := true }
theorem zq783 {α : Type} {l : List α} {n : Nat} (hn : n ≤ l.length) (x : α) (i : Nat) : (l.take n ++ x :: l.drop n)[i]? = if i < n then l[i]? else if i = n then some x else l[i - 1]? := by
 by_cases h1 : i < n
 ·rw [if_pos h1,zc6 (by simp; omega),List.getElem?_take,if_pos h1]
 ·rw [if_neg h1,zc12 (by simp; omega),zc20,Nat.min_eq_left hn]
  by_cases h2 : i = n
  ·rw [if_pos h2,h2]; simp
  ·rw [if_neg h2,show i - n = (i - n - 1) + 1 by omega,zc35,zc39]
   congr 1
   omega
theorem zq773 {P : Program} {f : FuncId} (hk ik : K) (e ity : TypeId)
  (h : ∀ (base : Nat) (w : World) (v u : Value) (n i : Nat) (cs xs : List Value),w.ownsRow base e (hk.sz + 1) v n cs → w.ownsRow base e (hk.sz + 1) u 1 xs → (∀ b,v.ownBlock = some b → u.ownBlock ≠ some b) → (∀ x ∈ cs,oneC x = true) → (∀ x ∈ xs,oneC x = true) → base ≤ w.heap.size → i ≤ n → n + 1 ≤ 274877906944 →
   Calls P f #[v,.int .i64 (i : Int),u] w fun r w' => ∃ v',r = .returned v' ∧ w'.ownsRow base e (hk.sz + 1) v' (n + 1) (cs.take (i * (hk.sz + 1)) ++ xs ++ cs.drop (i * (hk.sz + 1))) ∧ w.grownBy w' v.ownBlock ∧ (∀ b,v'.ownBlock = some b → v.ownBlock = some b ∨ w.heap.size ≤ b)) : TrOk P f (zq771 hk ik e ity) := by
 have inv : ∀ {X : Type} {args : List SV} {m : Mem} {kk : SV → Mem → Option X} {z : X},(zq771 hk ik e ity).tr X args m kk = some z → ∃ (j jv : Nat) (l : List hk.T) (ls : List (List ik.T)) (ja : Nat) (n : Int) (x : hk.T) (y : List ik.T) (jb : Nat),args = [.row j,.i .i64 n,.row jv] ∧ zq1259 m hk ik e ity j = some (l,ls,ja) ∧ zq1259 m hk ik e ity jv = some ([x],[y],jb) ∧ j ≠ jv ∧ ja ≠ jb ∧ 0 ≤ n ∧ n ≤ lenL l ∧ room (lenL l) 1 = true ∧
   zq770 hk ik e ity args m = some (j,l,ls,ja,n,x,y,jb) ∧ kk (.row (m.length + 1)) (zq772 hk ik e ity m j l ls ja n x y jb) = some z := by
  intro X args m kk z hz
  simp only [zq771] at hz
  split at hz
  ·rename_i j l ls ja n x y jb ha
   obtain ⟨h1,h2⟩ := zq1464 hz
   simp only [zc4,decide_eq_true_eq] at h1
   have ha0 := ha
   unfold zq770 at ha
   split at ha
   ·rename_i j1 n1 jv1
    split at ha
    ·rename_i q1 q2
     split at ha
     ·rename_i hne
      simp only [zc4,bne_iff_ne,ne_eq] at hne
      simp only [zc2,zc11] at ha
      obtain ⟨rfl,rfl,rfl,rfl,rfl,rfl,rfl,rfl⟩ := ha
      exact ⟨_,_,_,_,_,_,_,_,_,rfl,q1,q2,hne.1,hne.2,h1.1.1,h1.1.2,h1.2,ha0,h2⟩
     ·cases ha
    ·cases ha
   ·cases ha
  ·cases hz
 refine ⟨fun W _ X args m kk z hz _ => ⟨fun _ ρ w hm => ?_⟩,(fun hq => by cases hq),fun _ X args m kk z hz => ?_⟩
 ·obtain ⟨j,jv,l,ls,ja,n,x,y,jb,rfl,hA,hB,hne,hjb,h0,h1,hroom,_,hk2⟩ := inv hz
  clear hz
  obtain ⟨fa,a3,a4⟩ := zq1260 hA
  obtain ⟨fb,b3,b4⟩ := zq1260 hB
  obtain ⟨va,va1,va2,va3,va4,va5,_,va7⟩ := zq311 hm a4
  obtain ⟨vb,vb1,vb2,_,_,_,vb6,vb7⟩ := zq311 hm b4
  obtain ⟨u0,rfl⟩ : ∃ u0,vb = [u0] := by
   match vb,vb2 with
   | [u],_ => exact ⟨u,rfl⟩
  have hu0 := vb6 0 u0 y rfl rfl
  have hlp : (padV l.length va).length = l.length := zq1275 _ _
  have hln : (padL l.length ls).length = l.length := zq1277 _ _
  have hnl : n.toNat ≤ l.length := by unfold lenL at h1; omega
  have hub : ∀ b,zq1796 u0 = some b → b ∈ zq1797 (ρ jb) := fun b hb => by rw [vb1]; simp [zq1797,hb]
  have hcross : ∀ (z : Value) (b : Nat),z ∈ padV l.length va → zq1796 z = some b → zq1796 u0 ≠ some b := fun z b hz hb hb2 => by
   exact hm.sep ja jb _ _ hjb a4 b4 rfl rfl b ((va4 l.length z hz b).1 hb) (by rw [zq347 rfl]; exact hub b hb2)
  have hget : ∀ (p : Nat) (z : Value),(insL (padV l.length va) n u0)[p]? = some z → (p < n.toNat ∧ (padV l.length va)[p]? = some z) ∨ (p = n.toNat ∧ z = u0) ∨ (n.toNat < p ∧ (padV l.length va)[p - 1]? = some z) := fun p z hz => by
   unfold insL at hz
   rw [zq783 (by omega)] at hz
   split at hz
   ·exact .inl ⟨by assumption,hz⟩
   ·split at hz
    ·injection hz with hz; exact .inr (.inl ⟨by assumption,hz.symm⟩)
    ·exact .inr (.inr ⟨by omega,hz⟩)
  have hmem : ∀ z,z ∈ insL (padV l.length va) n u0 → z ∈ padV l.length va ∨ z = u0 := fun z hz => by
   obtain ⟨p,hp⟩ := zc30.1 hz
   rcases hget p z hp with ⟨_,h⟩ | ⟨_,h⟩ | ⟨_,h⟩
   ·exact .inl (zc5 h)
   ·exact .inr h
   ·exact .inl (zc5 h)
  obtain ⟨g1,g2⟩ := hm.bagPush (k := ik) (ls := insL (padL l.length ls) n y) (ity := ity) (own := true) (fr := true) (vs := insL (padV l.length va) n u0) [ja,jb]
   (by simp [insL,hlp,hln]) (fun p z lz hp hl => by
    unfold insL at hl
    rw [zq783 (by omega)] at hl
    rcases hget p z hp with ⟨h,hp⟩ | ⟨rfl,rfl⟩ | ⟨h,hp⟩
    ·rw [if_pos h] at hl
     obtain ⟨r1,r2⟩ := va3 l.length p z lz hp hl
     exact ⟨r1,fun _ => r2 rfl⟩
    ·rw [if_neg (by omega),if_pos rfl] at hl
     injection hl with hl
     subst hl
     exact ⟨hu0.1,fun _ => hu0.2 rfl⟩
    ·rw [if_neg (by omega),if_neg (by omega)] at hl
     obtain ⟨r1,r2⟩ := va3 l.length (p - 1) z lz hp hl
     exact ⟨r1,fun _ => r2 rfl⟩) (fun z hz b hb => by
    rcases hmem z hz with hz | rfl
    ·exact ⟨ja,by simp,_,a4,rfl,zq1432 ((va4 l.length z hz b).2 hb)⟩
    ·exact ⟨jb,by simp,_,b4,rfl,by rw [zq347 rfl]; exact hub b (zq1437 hb)⟩) (fun _ z hz b hb => by
    rcases hmem z hz with hz | rfl
    ·exact ⟨ja,by simp,_,a4,(va4 l.length z hz b).1 hb,rfl⟩
    ·exact ⟨jb,by simp,_,b4,hub b hb,rfl⟩) (fun _ p q z z' b hpq hp hq hb => by
    rcases hget p z hp with ⟨h,hp2⟩ | ⟨rfl,rfl⟩ | ⟨h,hp2⟩ <;> rcases hget q z' hq with ⟨h',hq2⟩ | ⟨rfl,rfl⟩ | ⟨h',hq2⟩
    ·exact va5 rfl l.length p q z z' b hpq hp2 hq2 hb
    ·exact hcross z b (zc5 hp2) hb
    ·exact va5 rfl l.length p (q - 1) z z' b (by omega) hp2 hq2 hb
    ·exact fun hb2 => hcross z' b (zc5 hq2) hb2 hb
    ·exact absurd rfl hpq
    ·exact fun hb2 => hcross z' b (zc5 hq2) hb2 hb
    ·exact va5 rfl l.length (p - 1) q z z' b (by omega) hp2 hq2 hb
    ·exact hcross z b (zc5 hp2) hb
    ·exact va5 rfl l.length (p - 1) (q - 1) z z' b (by omega) hp2 hq2 hb) (fun _ z hz b hb => by
    rcases hmem z hz with hz | rfl
    ·exact (va7 rfl).2 l.length z hz b hb
    ·exact (vb7 rfl).1 _ (by simp) b hb)
  obtain ⟨_,hgl,_,_,_,hkeep⟩ := zq725 true [ja,jb] hm
  have hag := zq1793 ρ m.length (.tuple (insL (padV l.length va) n u0).toArray)
  -- the call
  obtain ⟨_,hc1,ho1⟩ := hm.obj j _ a3
  obtain ⟨_,hc2,ho2⟩ := hm.obj jv _ b3
  rw [if_pos rfl] at ho1 ho2
  have hd1 : den ρ (.row j) = ρ j := zq1496 hm a3
  have hd2 : den ρ (.row jv) = ρ jv := zq1496 hm b3
  have e1 : ((n.toNat : Nat) : Int) = n := Int.toNat_of_nonneg h0
  have hro : l.length + 1 ≤ 274877906944 := by
   have := Nat.le_of_ble_eq_true hroom
   simpa [lenL] using this
  have hjow : ∀ (q : Nat) (b : Nat),(ρ q).ownBlock = some b → b ∈ zq1797 (ρ q) := by
   intro q b hb
   refine zq1114 ?_
   revert hb
   cases ρ q <;> simp [Value.ownBlock,zq1796]
   rename_i A1 _ _
   cases A1 <;> simp
  have := h W.heap.size w (ρ j) (ρ jv) l.length n.toNat _ _ ho1 ho2 (fun b hb hb' => hm.sep j jv _ _ hne a3 b3 rfl rfl b (hjow j b hb) (by rw [zq347 rfl]; exact hjow jv b hb')) hc1 hc2 hm.below.size hnl hro
  rw [e1] at this
  have ed : (denL ρ [.row j,.i .i64 n,.row jv]).toArray = #[ρ j,.int .i64 n,ρ jv] := by
   show #[den ρ (.row j),.int .i64 n,den ρ (.row jv)] = _
   rw [hd1,hd2]
  rw [ed]
  refine this.mono ?_
  rintro r w' ⟨v',rfl,hown,hgb,hblk⟩
  have hjl : j < m.length := (zc1.1 a3).1
  have hjn : j ∉ [ja,jb] := by
   simp only [zc28,zc37,or_false,not_or]
   exact ⟨(fun e => by rw [e,a4] at a3; cases a3),(fun e => by rw [e,b4] at a3; cases a3)⟩
  have hm1j : (goneL true [ja,jb] m ++ [Obj.bag ik (insL (padL l.length ls) n y) ity true true])[j]? = some (.row (.nest hk l ja) e true) := by
   rw [zc6 (by rw [hgl]; exact hjl),hkeep j hjn,a3]
  have hIl : (insL l n x).length = l.length + 1 := by unfold insL; simp; omega
  have hden : zq1130 (upd ρ m.length (.tuple (insL (padV l.length va) n u0).toArray)) hk (.tuple (insL (padV l.length va) n u0).toArray) (insL l n x) 0 = ((C.nest hk l ja).den ρ).take (n.toNat * (hk.sz + 1)) ++ (C.nest hk [x] jb).den ρ ++ ((C.nest hk l ja).den ρ).drop (n.toNat * (hk.sz + 1)) := by
   have hsplit : (C.nest hk l ja).den ρ = zq1130 ρ hk (ρ ja) (l.take n.toNat) 0 ++ zq1130 ρ hk (ρ ja) (l.drop n.toNat) n.toNat := by
    simp only [C.den]
    conv => lhs; rw [← List.take_append_drop n.toNat l]
    rw [zq1131,Nat.zero_add,zc20,Nat.min_eq_left hnl]
   have hlt : (zq1130 ρ hk (ρ ja) (l.take n.toNat) 0).length = n.toNat * (hk.sz + 1) := by rw [zq1139,zc20,Nat.min_eq_left hnl]
   rw [hsplit,List.take_left' hlt,List.drop_left' hlt,zq1133 ρ]
   unfold insL
   rw [zq1131,Nat.zero_add,zc20,Nat.min_eq_left hnl,zq1130,zc46]
   have hin : ∀ p : Nat,innV (.tuple ((padV l.length va).take n.toNat ++ u0 :: (padV l.length va).drop n.toNat).toArray) (p : Int) = zq1583 ((if p < n.toNat then (padV l.length va)[p]? else if p = n.toNat then some u0 else (padV l.length va)[p - 1]?).getD (.slice none 0 0)) := fun p => by
    rw [zq762,zc3,zq783 (by omega)]
   have hia : ∀ p : Nat,p < l.length → innV (ρ ja) (p : Int) = zq1583 (((padV l.length va)[p]?).getD (.slice none 0 0)) := fun p hp => by
    rw [va1,zq762,zq1274,if_pos hp]; rfl
   congr 1
   ·refine zq1132 _ _ _ _ _ _ _ fun p hp => ?_
    have hp : p < n.toNat := by simp at hp; omega
    rw [Nat.zero_add,hin,if_pos hp,hia p (by omega)]
   ·simp only [C.den,zq1130]
    rw [hin,if_neg (by omega),if_pos rfl,vb1,show ((0 : Nat) : Int) = ((0 : Nat) : Int) from rfl,zq762]
    simp only [Option.getD_some,List.getD_cons_zero,zc46,List.cons_append,List.nil_append]
    congr 2
    refine zq1132 _ _ _ _ _ _ _ fun p hp => ?_
    have hp : n.toNat + p < l.length := by simp at hp; omega
    rw [hin,if_neg (by omega),if_neg (by omega),hia _ hp,show n.toNat + 1 + p - 1 = n.toNat + p by omega]
  obtain ⟨hrel,A',c',hv'⟩ := g1.grow (j := some j) (xv := ρ j) (d := .nest hk (insL l n x) m.length) (e := e) (.inr ⟨j,_,rfl,by rw [hag j hjl],hm1j⟩) ho1 hgb hblk (by simp [C.sz]) (by simp [C.lt,g2])
   (fun u hu => by simp only [C.den,zq1795] at hu; exact zq1140 _ _ _ _ _ u hu) (by
    simp only [C.den,zq1795,hden,C.n,C.sz,hIl]
    exact hown)
  have hlen : (killO (goneL true [ja,jb] m ++ [Obj.bag ik (insL (padL l.length ls) n y) ity true true]) (some j)).length = m.length + 1 := by simp [killO,g2]
  refine ⟨_,.row (m.length + 1),_,?_,hrel,hag.trans (zq1793 _ _ _) (by rw [g2]; omega),by simp [killO,g2]; omega,fun _ => by simp [SV.lt,killO,g2],hk2⟩
  congr 1
  rw [show (goneL true [ja,jb] m ++ [Obj.bag ik (insL (padL l.length ls) n y) ity true true]).length = m.length + 1 from g2]
  simp only [den,zq1795,hv',zq1583]
 ·obtain ⟨j,jv,l,ls,ja,n,x,y,jb,rfl,hA,hB,hne,hjb,h0,h1,hroom,ha,hk2⟩ := inv hz
  refine ⟨.row (m.length + 1),_,?_,hk2,fun hl => by cases hl⟩
  simp only [zq771,ha]
  rw [show (decide (0 ≤ n) && decide (n ≤ lenL l) && room (lenL l) 1) = true by simp [h0,h1,hroom]]
  rfl
def adLt (a b : Ad) : Bool := (!a.v6 && b.v6) || (a.v6 == b.v6 && (decide (a.hi < b.hi) || (decide (a.hi = b.hi) && decide (a.lo < b.lo))))
def insS (x : Ls) : List Ls → List Ls
 | [] => [x]
 | y :: r => if adLt y.ad x.ad then y :: insS x r else x :: y :: r
def sortL : List Ls → List Ls
 | [] => []
 | x :: r => insS x (sortL r)
def zq294 : List Ls → Bool
 | [] => true
 | x :: r => r.all (fun y => decide (y.ad ≠ x.ad)) && zq294 r
theorem RelM.rewritten {W : World} {ρ : Nat → Value} {m : Mem} {w w' : World} (hm : RelM W ρ m w) {j : Nat} {c : C} {bt : TypeId} (hj : m[j]? = some (.row c bt true)) {k : K} {l : List k.T} {e : TypeId}
  (hown' : w'.ownsRow W.heap.size e k.sz (ρ j) l.length (l.flatMap fun a => denL ρ (k.enc a))) (hgb : w.grownBy w' (ρ j).ownBlock) : RelM W ρ (m.set j (.row (.ty k l) e true)) w' := by
 have hjl : j < m.length := (zc1.1 hj).1
 have hset : ∀ (i : Nat) (x : Obj),(m.set j (.row (.ty k l) e true))[i]? = some x → (i = j ∧ x = .row (.ty k l) e true) ∨ (i ≠ j ∧ m[i]? = some x) := by
  intro i x hi
  by_cases hij : i = j
  ·subst hij
   rw [List.getElem?_set_self hjl] at hi
   injection hi with hi
   exact .inl ⟨rfl,hi.symm⟩
  ·rw [List.getElem?_set_ne (by omega)] at hi
   exact .inr ⟨hij,hi⟩
 have hjow : ∀ b,(ρ j).ownBlock = some b → b ∈ zq1797 (ρ j) := by
  intro b hb
  refine zq1114 ?_
  revert hb
  cases ρ j <;> simp [Value.ownBlock,zq1796]
  rename_i A1 _ _
  cases A1 <;> simp
 have hbase : ∀ b,(ρ j).ownBlock = some b → W.heap.size ≤ b := by
  intro b hb
  obtain ⟨_,_,hown⟩ := hm.obj j _ hj
  rw [if_pos rfl] at hown
  rcases hown.2 with ⟨h,_⟩ | ⟨g,cp,cur,h,h2,_⟩
  ·rw [h] at hb; cases hb
  ·rw [h] at hb
   simp only [Value.ownBlock,zc2] at hb
   omega
 refine ⟨hm.below.grown hgb hm.below.size hbase,fun i o hi => ?_,fun i q o1 o2 hiq hi hq hmu hd => ?_,fun i o hi => ?_⟩
 ·rcases hset i o hi with ⟨rfl,rfl⟩ | ⟨hne,hi⟩
  ·refine ⟨(zq1765 k : 0 < k.sz),fun u hu => zq681 hu,?_⟩
   rw [if_pos rfl]
   exact hown'
  ·cases hdd : o.deadB
   ·exact (hm.obj i o hi).keep (fun b hb hlt => hgb.block b hlt (fun e => hm.sep j i _ o (by omega) hj hi rfl (zq507.2 hdd) b (hjow b e.symm) hb)) hgb.size
   ·exact (hm.obj i o hi).still hdd
 ·have hi' : ∃ o1',m[i]? = some o1' ∧ o1'.mutB = true := by
   rcases hset i o1 hi with ⟨rfl,rfl⟩ | ⟨hne,hi⟩
   ·exact ⟨_,hj,rfl⟩
   ·exact ⟨_,hi,hmu⟩
  have hq' : ∃ o2',m[q]? = some o2' ∧ (o2' matches .dead _) = false ∧ o2.blocks = o2'.blocks := by
   rcases hset q o2 hq with ⟨rfl,rfl⟩ | ⟨hne,hq⟩
   ·exact ⟨_,hj,rfl,rfl⟩
   ·exact ⟨_,hq,hd,rfl⟩
  obtain ⟨o1',hi',hm'⟩ := hi'
  obtain ⟨o2',hq',hd',hbl⟩ := hq'
  rw [hbl]
  exact hm.sep i q o1' o2' hiq hi' hq' hm' hd'
 ·rw [List.length_set]
  rcases hset i o hi with ⟨rfl,rfl⟩ | ⟨_,hi⟩
  ·rfl
  ·exact hm.lt i o hi
def zq1629 (k : K) (e : TypeId) (g : FuncId) (args : List SV) (m : Mem) : Option (Nat × List k.T) :=
 match args with
 | [.row j,.fn g' []] => (match m[j]? with | some (.row (.ty k1 l) bt true) => if h : k1 = k then (if bt == e && g' == g then some (j,castL h l) else none) else none | _ => none)
 | _ => none
def zq1631 (k : K) (ok : List k.T → Bool) (srt : List k.T → List k.T) (e : TypeId) (g : FuncId) : Con :=
 {tr := fun _ args m kk => match zq1629 k e g args m with
   | some (j,l) => req (ok l) (kk (.tup []) (m.set j (.row (.ty k (srt l)) e true)))
   | none => none
  q := false,law := false,det := true }
theorem zq1630 {k : K} {e : TypeId} {g : FuncId} {args : List SV} {m : Mem} {j : Nat} {l : List k.T} (h : zq1629 k e g args m = some (j,l)) : args = [.row j,.fn g []] ∧ m[j]? = some (.row (.ty k l) e true) := by
 unfold zq1629 at h
 split at h
 ·split at h
  ·rename_i hj
   split at h
   ·rename_i hk
    subst hk
    split at h
    ·rename_i hc
     simp only [zc4,beq_iff_eq] at hc
     obtain ⟨rfl,rfl⟩ := hc
     simp only [zc2,zc11] at h
     obtain ⟨rfl,rfl⟩ := h
     exact ⟨rfl,hj⟩
    ·cases h
   ·cases h
  ·cases h
 ·cases h
theorem zq1636 {P : Program} {f : FuncId} (k : K) (ok : List k.T → Bool) (srt : List k.T → List k.T) (e : TypeId) (g : FuncId)
  (h : ∀ (W : World),Glob P W → ∀ (base : Nat) (w : World) (v : Value) (l : List k.T) (ρ : Nat → Value),Below W.heap.size W w → w.ownsRow base e k.sz v l.length (l.flatMap fun a => denL ρ (k.enc a)) → base ≤ w.heap.size → ok l = true →
   Calls P f #[v,.func (.func g) #[] #[]] w fun r w' => r = .returned (.tuple #[]) ∧ w'.ownsRow base e k.sz v (srt l).length ((srt l).flatMap fun a => denL ρ (k.enc a)) ∧ w.grownBy w' v.ownBlock) : TrOk P f (zq1631 k ok srt e g) := by
 have inv : ∀ {X : Type} {args : List SV} {m : Mem} {kk : SV → Mem → Option X} {x : X},(zq1631 k ok srt e g).tr X args m kk = some x → ∃ (j : Nat) (l : List k.T),zq1629 k e g args m = some (j,l) ∧ ok l = true ∧ kk (.tup []) (m.set j (.row (.ty k (srt l)) e true)) = some x := by
  intro X args m kk x hk
  simp only [zq1631] at hk
  split at hk
  ·rename_i j l ha
   obtain ⟨h1,h2⟩ := zq1464 hk
   exact ⟨j,l,ha,h1,h2⟩
  ·cases hk
 refine ⟨fun W hG X args m kk x hk _ => ⟨fun _ ρ w hm => ?_⟩,(fun hq => by cases hq),fun _ X args m kk x hk => ?_⟩
 ·obtain ⟨j,l,ha,hap,hk2⟩ := inv hk
  clear hk
  obtain ⟨rfl,hj⟩ := zq1630 ha
  obtain ⟨_,hc1,ho1⟩ := hm.obj j _ hj
  rw [if_pos rfl] at ho1
  have hd1 : den ρ (.row j) = ρ j := zq1496 hm hj
  have ed : (denL ρ [.row j,.fn g []]).toArray = #[ρ j,.func (.func g) #[] #[]] := by
   show #[den ρ (.row j),den ρ (.fn g [])] = _
   rw [hd1]
   rfl
  rw [ed]
  refine (h W hG W.heap.size w (ρ j) l ρ hm.below ho1 hm.below.size hap).mono ?_
  rintro r w' ⟨rfl,hown,hgb⟩
  exact ⟨ρ,.tup [],_,rfl,hm.rewritten (k := k) hj hown hgb,Agree.refl _ _,by simp,fun _ => rfl,hk2⟩
 ·obtain ⟨j,l,ha,hap,hk2⟩ := inv hk
  refine ⟨.tup [],_,?_,hk2,fun hl => by cases hl⟩
  simp only [zq1631,ha]
  rw [hap]
  rfl
def zq1634 (l : List Ls) : Bool := !l.isEmpty && (room (lenL l) 0 && zq294 l)
theorem zq226 (a b : Ad) : adLt a b = true ↔ (a.v6 = false ∧ b.v6 = true) ∨ (a.v6 = b.v6 ∧ (a.hi < b.hi ∨ (a.hi = b.hi ∧ a.lo < b.lo))) := by
 unfold adLt
 cases a.v6 <;> cases b.v6 <;> simp
theorem zq228 {a b : Ad} : adLt a b = false ↔ ¬ adLt a b = true := by cases adLt a b <;> simp
theorem zq227 (a : Ad) : adLt a a = false := by
 rw [zq228,zq226]
 rintro (⟨h1,h2⟩ | ⟨_,h | ⟨_,h⟩⟩)
 ·rw [h1] at h2; cases h2
 ·omega
 ·omega
theorem zq231 {a b c : Ad} (h1 : adLt a b = true) (h2 : adLt b c = true) : adLt a c = true := by
 rw [zq226] at *
 rcases h1 with ⟨p1,p2⟩ | ⟨p1,p2⟩ <;> rcases h2 with ⟨q1,q2⟩ | ⟨q1,q2⟩
 ·rw [p2] at q1; cases q1
 ·exact .inl ⟨p1,by rw [← q1]; exact p2⟩
 ·exact .inl ⟨by rw [p1]; exact q1,q2⟩
 ·exact .inr ⟨p1.trans q1,by omega⟩
theorem zq232 (a b : Ad) (h1 : adLt a b = false) (h2 : adLt b a = false) : a = b := by
 rw [zq228,zq226] at h1 h2
 obtain ⟨av,ah,al⟩ := a
 obtain ⟨bv,bh,bl⟩ := b
 simp only at h1 h2
 have hv : av = bv := by cases av <;> cases bv <;> simp_all
 subst hv
 have e1 : ah = bh := by
  rcases Int.lt_trichotomy ah bh with h | h | h
  ·exact absurd (.inr ⟨rfl,.inl h⟩) h1
  ·exact h
  ·exact absurd (.inr ⟨rfl,.inl h⟩) h2
 subst e1
 have e2 : al = bl := by
  rcases Int.lt_trichotomy al bl with h | h | h
  ·exact absurd (.inr ⟨rfl,.inr ⟨rfl,h⟩⟩) h1
  ·exact h
  ·exact absurd (.inr ⟨rfl,.inr ⟨rfl,h⟩⟩) h2
 subst e2
 rfl
theorem zq229 {a b c : Ad} (h1 : adLt a b = false) (h2 : adLt b c = false) : adLt a c = false := by
 cases h : adLt a c
 ·rfl
 ·exfalso
  cases hb : adLt b a
  ·have := zq232 a b h1 hb
   subst this
   rw [h2] at h; cases h
  ·have := zq231 hb h
   rw [h2] at this; cases this
theorem zq225 {a b : Ad} (h : adLt a b = true) : adLt b a = false := by
 cases hb : adLt b a
 ·rfl
 ·have := zq231 h hb
  rw [zq227] at this; cases this
theorem zq779 (x : Ls) : ∀ l : List Ls,(insS x l).Perm (x :: l)
 | [] => .refl _
 | y :: r => by
  unfold insS
  split
  ·exact ((zq779 x r).cons y).trans (.swap x y r)
  ·exact .refl _
theorem zq1632 : ∀ l : List Ls,(sortL l).Perm l
 | [] => .refl _
 | x :: r => (zq779 x (sortL r)).trans ((zq1632 r).cons x)
def leL (a b : Ls) : Prop := adLt b.ad a.ad = false
theorem zq780 (x : Ls) : ∀ l : List Ls,l.Pairwise leL → (insS x l).Pairwise leL
 | [],_ => by simp [insS]
 | y :: r,h => by
  have h' := zc45.1 h
  unfold insS
  split
  ·rename_i hlt
   refine zc45.2 ⟨fun z hz => ?_,zq780 x r h'.2⟩
   rcases zc28.1 ((zq779 x r).mem_iff.1 hz) with rfl | hz
   ·exact zq225 hlt
   ·exact h'.1 z hz
  ·rename_i hlt
   have hyx : adLt y.ad x.ad = false := by simpa using hlt
   refine zc45.2 ⟨fun z hz => ?_,h⟩
   rcases zc28.1 hz with rfl | hz
   ·exact hyx
   ·exact zq229 (h'.1 z hz) hyx
theorem zq1633 : ∀ l : List Ls,(sortL l).Pairwise leL
 | [] => .nil
 | x :: r => zq780 x _ (zq1633 r)
theorem zq296 : ∀ {l : List Ls},zq294 l = true → ∀ {a b : Ls},a ∈ l → b ∈ l → a.ad = b.ad → a = b
 | [],_,_,_,h,_,_ => by cases h
 | x :: r,hap,a,b,ha,hb,he => by
  simp only [zq294,zc4,zc17,decide_eq_true_eq] at hap
  rcases zc28.1 ha with ea | ha' <;> rcases zc28.1 hb with eb | hb'
  ·rw [ea,eb]
  ·exact absurd (by rw [← he,ea]) (hap.1 b hb')
  ·exact absurd (by rw [he,eb]) (hap.1 a ha')
  ·exact zq296 hap.2 ha' hb' he
theorem zq1637 {l l' : List Ls} (hp : l'.Perm l) (hs : l'.Pairwise leL) (hap : zq294 l = true) : l' = sortL l :=
 List.Perm.eq_of_pairwise (le := leL) (fun _ _ ha hb h1 h2 => zq296 hap (hp.mem_iff.1 ha) ((zq1632 l).mem_iff.1 hb) (zq232 _ _ h2 h1)) hs (zq1633 l) (hp.trans (zq1632 l).symm)
end Go.Ma
namespace Go.Ma
open Go
def zq909 (a0 : Int) : Option (Ad × Unit) :=
 some ((⟨false,0,a0⟩ : Ad),())
def zq887 (a0 : Int) (a1 : Int) : Option (Pf × Unit) :=
 (zq909 a0).bind fun y1 =>
 some ((⟨y1.1,a1⟩ : Pf),())
def zq897 : Option ((List Oq) × Unit) :=
 (zq887 8 30).bind fun y1 =>
 (zq909 8).bind fun y2 =>
 some (([(⟨1,y1.1,(⟨false,0,0⟩ : Ad),(ByteArray.empty),0,0⟩ : Oq),(⟨2,(⟨(⟨false,0,0⟩ : Ad),0⟩ : Pf),y2.1,(ByteArray.empty),0,0⟩ : Oq),(⟨3,(⟨(⟨false,0,0⟩ : Ad),0⟩ : Pf),(⟨false,0,0⟩ : Ad),(⟨#[120]⟩ : ByteArray),0,10⟩ : Oq)] : List Oq),())
def zq872 : Option ((List Ev) × Unit) :=
 zq897.bind fun y1 =>
 req (zq751 0 (lenL y1.1)) <|
 (geti y1.1 0).bind fun p2 =>
 zq897.bind fun y3 =>
 req (zq751 1 (lenL y3.1)) <|
 (geti y3.1 1).bind fun p4 =>
 zq897.bind fun y5 =>
 req (zq751 2 (lenL y5.1)) <|
 (geti y5.1 2).bind fun p6 =>
 some (([(⟨2,1,0,(⟨0,(⟨(⟨false,0,0⟩ : Ad),0⟩ : Pf),(⟨false,0,0⟩ : Ad),(ByteArray.empty),0,0⟩ : Oq)⟩ : Ev),(⟨3,1,0,p2⟩ : Ev),(⟨1,0,11,(⟨0,(⟨(⟨false,0,0⟩ : Ad),0⟩ : Pf),(⟨false,0,0⟩ : Ad),(ByteArray.empty),0,0⟩ : Oq)⟩ : Ev),(⟨2,2,0,(⟨0,(⟨(⟨false,0,0⟩ : Ad),0⟩ : Pf),(⟨false,0,0⟩ : Ad),(ByteArray.empty),0,0⟩ : Oq)⟩ : Ev),(⟨3,1,0,p4⟩ : Ev),(⟨4,2,5,(⟨0,(⟨(⟨false,0,0⟩ : Ad),0⟩ : Pf),(⟨false,0,0⟩ : Ad),(ByteArray.empty),0,0⟩ : Oq)⟩ : Ev),(⟨3,2,0,p6⟩ : Ev)] : List Ev),())
def zq456 : Option ((Int × Int × Int × Int × (List En) × (List Int × List (List En)) × Unit) × Unit) :=
 some ((0,0,0,0,([] : List En),(([0,0] : List Int),([([] : List En),([] : List En)] : List (List En))),()),())
def zq489 (a0 : Int) (a1 : Int) (a2 : Int) : Option (Bool × Unit) :=
 (br (decide (a0 ≥ a1))
 (some (decide (a0 ≤ a2)))
 (some false)).bind fun c1 =>
 some (c1,())
def zq651 (a0 : Int) (a1 : Int) (a2 : Int) : Option (Bool × Unit) :=
 (br (decide (a0 ≥ a1))
 (some (decide (a0 ≤ a2)))
 (some false)).bind fun c1 =>
 some (c1,())
def zq1081 (a0 : Int) : Option (Bool × Unit) :=
 (br (decide (a0 ≥ 1))
 (some (decide (a0 ≤ 999)))
 (some false)).bind fun c1 =>
 some (c1,())
def zq1746 (a0 : Int) (a1 : Int) (a2 : Int) : Option (Bool × Unit) :=
 (br (decide (a0 ≥ a1))
 (some (decide (a0 ≤ a2)))
 (some false)).bind fun c1 =>
 some (c1,())
def zq1722 (a0 : Oq) : Option (Bool × Unit) :=
 (br (!decide (a0.kind = 1))
 (some (!(eqPf a0.pf (⟨(⟨false,0,0⟩ : Ad),0⟩ : Pf))))
 (some false)).bind fun c1 =>
 (br c1
 (some true)
 (br (!decide (a0.kind = 2))
 (some (!(eqAd a0.ad (⟨false,0,0⟩ : Ad))))
 (some false))).bind fun c2 =>
 (br c2
 (some true)
 (br (!decide (a0.kind = 3))
 (br (!decide (a0.kind = 4))
 (some (zq1758 .neq a0.who (ByteArray.empty)))
 (some false))
 (some false))).bind fun c3 =>
 (br c3
 (some true)
 (br (!decide (a0.kind = 3))
 (some (!decide (a0.of_ = 0)))
 (some false))).bind fun c4 =>
 (br c4
 (some true)
 (br (!decide (a0.kind = 3))
 (br (!decide (a0.kind = 5))
 (some (!decide (a0.n = 0)))
 (some false))
 (some false))).bind fun c5 =>
 some (c5,())
def zq251 (a0 : Ad) : Option (Int × Unit) :=
 (br (!a0.v6)
 (br (!decide (a0.hi = 0))
 (some true)
 (some (decide (a0.lo ≥ 4294967296))))
 (some false)).bind fun c1 =>
 br c1
 (some (3,()))
 (some (0,()))
def zq1356 (a0 : Ad) : Option (Int × Unit) :=
 br a0.v6
 (some (128,()))
 (some (32,()))
def zq1362 (a0 : Ad) (a1 : Int) : Option (Ad × Unit) :=
 (zq1356 a0).bind fun y1 =>
 req (i64ok (y1.1 - a1)) <|
 br (decide (y1.1 - a1 < 64))
 (req (decide (0 ≤ y1.1 - a1)) <|
 br (decide (y1.1 - a1 > 64))
 (br (decide (y1.1 - a1 < 128))
 (req (i64ok ((y1.1 - a1) - 64)) <|
 req (decide (0 ≤ (y1.1 - a1) - 64)) <|
 some ((⟨a0.v6,aop .sub .u64 (aop .shl .u64 1 ((y1.1 - a1) - 64)) 1,aop .sub .u64 (aop .shl .u64 1 (y1.1 - a1)) 1⟩ : Ad),()))
 (some ((⟨a0.v6,18446744073709551615,aop .sub .u64 (aop .shl .u64 1 (y1.1 - a1)) 1⟩ : Ad),())))
 (some ((⟨a0.v6,0,aop .sub .u64 (aop .shl .u64 1 (y1.1 - a1)) 1⟩ : Ad),())))
 (br (decide (y1.1 - a1 > 64))
 (br (decide (y1.1 - a1 < 128))
 (req (i64ok ((y1.1 - a1) - 64)) <|
 req (decide (0 ≤ (y1.1 - a1) - 64)) <|
 some ((⟨a0.v6,aop .sub .u64 (aop .shl .u64 1 ((y1.1 - a1) - 64)) 1,18446744073709551615⟩ : Ad),()))
 (some ((⟨a0.v6,18446744073709551615,18446744073709551615⟩ : Ad),())))
 (some ((⟨a0.v6,0,18446744073709551615⟩ : Ad),())))
def zq1320 (a0 : Ad) (a1 : Int) : Option (Ad × Unit) :=
 (zq1362 a0 a1).bind fun y1 =>
 some ((⟨a0.v6,aop .andNot .u64 a0.hi y1.1.hi,aop .andNot .u64 a0.lo y1.1.lo⟩ : Ad),())
def zq1314 (a0 : Pf) : Option (Int × Unit) :=
 (zq251 a0.ad).bind fun y1 =>
 br (!decide (y1.1 = 0))
 (some (y1.1,()))
 ((br (decide (a0.bits < 0))
 (some true)
 ((zq1356 a0.ad).bind fun y2 =>
 some (decide (a0.bits > y2.1)))).bind fun c2 =>
 br c2
 (some (3,()))
 ((zq1320 a0.ad a0.bits).bind fun y3 =>
 br (!(eqAd y3.1 a0.ad))
 (some (4,()))
 (some (0,()))))
def zq944 (a0 : Pf) : Option (Bool × Unit) :=
 (zq1356 a0.ad).bind fun y1 =>
 req (i64ok (y1.1 - a0.bits)) <|
 some (decide (y1.1 - a0.bits ≤ 4),())
def zq988 (a0 : Int) (a1 : Int) (a2 : Int) : Option (Bool × Unit) :=
 (br (decide (a0 ≥ a1))
 (some (decide (a0 ≤ a2)))
 (some false)).bind fun c1 =>
 some (c1,())
abbrev lease_Who_L2_A := (((ByteArray × Unit) × (Int × Unit) × (Int × Unit) × Unit) × Unit)
abbrev lease_Who_L2_B := Option ((((Bool × Unit) × Unit) × Unit) ⊕ (((ByteArray × Unit) × Unit) × Unit))
def zq974 (rec : lease_Who_L2_A → lease_Who_L2_B) (x : lease_Who_L2_A) : lease_Who_L2_B :=
 let v0 := x.1.1.1
 let v1 := x.1.2.1.1
 let v2 := x.1.2.2.1.1
 br (decide (v2 < v1))
 (req (zq751 v2 (lenS v0)) <|
 (br (decide (zq363 v0 v2 ≥ 97))
 (some (decide (zq363 v0 v2 ≤ 122)))
 (some false)).bind fun c1 =>
 (br (!c1)
 (br (decide (zq363 v0 v2 ≥ 48))
 (some (!(decide (zq363 v0 v2 ≤ 57))))
 (some true))
 (some false)).bind fun c2 =>
 br c2
 (some (Sum.inl (((false,()),()),())))
 (req (i64ok (v2 + 1)) <|
 rec (((v0,()),(v1,()),(v2 + 1,()),()),())))
 (some (Sum.inr ((((v0,()),()),()))))
def zq982 (a0 : ByteArray) : Option (Bool × Unit) :=
 (loopN zq974 FUEL (((a0,()),(lenS a0,()),(0,()),()),(()))).bind fun y1 =>
 sumC y1 (fun y2 =>
 some (y2.1.1.1,())) (fun y3 =>
 (zq988 (lenS y3.1.1.1) 1 8).bind fun y4 =>
 some (y4.1,()))
def zq1661 (a0 : Oq) : Option (Int × Unit) :=
 (zq1746 a0.kind 1 5).bind fun y1 =>
 br (!y1.1)
 (some (7,()))
 ((zq1722 a0).bind fun y2 =>
 br y2.1
 (some (1,()))
 (br (decide (a0.kind = 1))
 ((zq1314 a0.pf).bind fun y3 =>
 br (!decide (y3.1 = 0))
 (some (y3.1,()))
 ((zq944 a0.pf).bind fun y4 =>
 br (!y4.1)
 (some (2,()))
 (some (0,()))))
 (br (decide (a0.kind = 2))
 ((zq251 a0.ad).bind fun y3 =>
 some (y3.1,()))
 (br (decide (a0.kind = 3))
 (br (decide (a0.kind = 3))
 ((zq982 a0.who).bind fun y3 =>
 br (!y3.1)
 (some (1,()))
 ((br (decide (a0.kind = 3))
 ((zq1746 a0.of_ 0 2).bind fun y4 =>
 br (!y4.1)
 (some true)
 ((zq1746 a0.n 1 500).bind fun y5 =>
 some (!y5.1)))
 (some false)).bind fun c4 =>
 br c4
 (some (3,()))
 (some (0,()))))
 (br (decide (a0.kind = 5))
 ((zq1746 a0.n 0 9999).bind fun y3 =>
 br (!y3.1)
 (some (3,()))
 (some (0,())))
 (some (0,()))))
 (br (decide (a0.kind = 4))
 ((zq982 a0.who).bind fun y3 =>
 br (!y3.1)
 (some (1,()))
 ((br (decide (a0.kind = 3))
 ((zq1746 a0.of_ 0 2).bind fun y4 =>
 br (!y4.1)
 (some true)
 ((zq1746 a0.n 1 500).bind fun y5 =>
 some (!y5.1)))
 (some false)).bind fun c4 =>
 br c4
 (some (3,()))
 (some (0,()))))
 (br (decide (a0.kind = 5))
 ((zq1746 a0.n 0 9999).bind fun y3 =>
 br (!y3.1)
 (some (3,()))
 (some (0,())))
 (some (0,()))))))))
abbrev log_Check_L4_A := ((Unit × Unit × (Int × Unit) × (Int × Unit) × Unit) × (List En × Unit))
abbrev log_Check_L4_B := Option ((((Int × Unit) × Unit) × (List En × Unit)) ⊕ (Unit × (List En × Unit)))
def zq1037 (rec : log_Check_L4_A → log_Check_L4_B) (x : log_Check_L4_A) : log_Check_L4_B :=
 let v0 := x.1.2.2.1.1
 let v1 := x.1.2.2.2.1.1
 let v2 := x.2.1
 br (decide (v1 < v0))
 (req (zq751 v1 (lenL v2)) <|
 (geti v2 v1).bind fun p1 =>
 req (i64ok (v1 + 1)) <|
 br (!decide (p1.num = v1 + 1))
 (some (Sum.inl (((4,()),()),(v2,()))))
 ((zq1081 p1.epoch).bind fun y2 =>
 br (!y2.1)
 (some (Sum.inl (((3,()),()),(v2,()))))
 ((br (decide (v1 > 0))
 (req (i64ok (v1 - 1)) <|
 req (zq751 (v1 - 1) (lenL v2)) <|
 req (zq751 (v1 - 1) (lenL v2)) <|
 (geti v2 (v1 - 1)).bind fun p3 =>
 some (decide (p1.epoch < p3.epoch)))
 (some false)).bind fun c3 =>
 br c3
 (some (Sum.inl (((4,()),()),(v2,()))))
 ((zq1661 p1.op).bind fun y4 =>
 br (!decide (y4.1 = 0))
 (some (Sum.inl (((y4.1,()),()),(v2,()))))
 (req (i64ok (v1 + 1)) <|
 rec (((),(),(v0,()),(v1 + 1,()),()),(v2,())))))))
 (some (Sum.inr (((),(v2,())))))
def zq1045 (a0 : List En) : Option (Int × Unit) :=
 br (decide (lenL a0 > 30))
 (some (2,()))
 ((loopN zq1037 FUEL (((()),(()),(lenL a0,()),(0,()),()),(a0,()))).bind fun y1 =>
 sumC y1 (fun y2 =>
 some (y2.1.1.1,())) (fun y3 =>
 some (0,())))
def zq601 (a0 : En) (a1 : Int) (a2 : Int) (a3 : Int) (a4 : List En) : Option (Bool × Unit) :=
 some (decide (a0.epoch > a1),())
abbrev fence_Check_slices_ContainsFunc___api_Entry_api_Entry__slices_IndexFunc___api_Entry_api_Entry__L2_A := ((Unit × Unit × (Int × Unit) × (Int × Unit) × Unit) × (List En × (Int × Int × Int × Unit) × Unit))
abbrev fence_Check_slices_ContainsFunc___api_Entry_api_Entry__slices_IndexFunc___api_Entry_api_Entry__L2_B := Option ((((Int × Unit) × Unit) × (List En × (Int × Int × Int × Unit) × Unit)) ⊕ (Unit × (List En × (Int × Int × Int × Unit) × Unit)))
def zq611 (rec : fence_Check_slices_ContainsFunc___api_Entry_api_Entry__slices_IndexFunc___api_Entry_api_Entry__L2_A → fence_Check_slices_ContainsFunc___api_Entry_api_Entry__slices_IndexFunc___api_Entry_api_Entry__L2_B) (x : fence_Check_slices_ContainsFunc___api_Entry_api_Entry__slices_IndexFunc___api_Entry_api_Entry__L2_A) : fence_Check_slices_ContainsFunc___api_Entry_api_Entry__slices_IndexFunc___api_Entry_api_Entry__L2_B :=
 let v0 := x.1.2.2.1.1
 let v1 := x.1.2.2.2.1.1
 let v2 := x.2.1
 let v3 := x.2.2.1.1
 let v4 := x.2.2.1.2.1
 let v5 := x.2.2.1.2.2.1
 br (decide (v1 < v0))
 (req (zq751 v1 (lenL v2)) <|
 (geti v2 v1).bind fun p1 =>
 (zq601 p1 v3 v4 v5 v2).bind fun y2 =>
 br y2.1
 (some (Sum.inl (((v1,()),()),(v2,(v3,v4,v5,()),()))))
 (req (i64ok (v1 + 1)) <|
 rec (((),(),(v0,()),(v1 + 1,()),()),(v2,(v3,v4,v5,()),()))))
 (some (Sum.inr (((),(v2,(v3,v4,v5,()),())))))
abbrev fence_Check_slices_ContainsFunc___api_Entry_api_Entry__2_slices_IndexFunc___api_Entry_api_Entry__L2_A := ((Unit × Unit × (Int × Unit) × (Int × Unit) × Unit) × (List En × (Int × Int × Int × Unit) × Unit))
abbrev fence_Check_slices_ContainsFunc___api_Entry_api_Entry__2_slices_IndexFunc___api_Entry_api_Entry__L2_B := Option ((((Int × Unit) × Unit) × (List En × (Int × Int × Int × Unit) × Unit)) ⊕ (Unit × (List En × (Int × Int × Int × Unit) × Unit)))
def zq607 (rec : fence_Check_slices_ContainsFunc___api_Entry_api_Entry__2_slices_IndexFunc___api_Entry_api_Entry__L2_A → fence_Check_slices_ContainsFunc___api_Entry_api_Entry__2_slices_IndexFunc___api_Entry_api_Entry__L2_B) (x : fence_Check_slices_ContainsFunc___api_Entry_api_Entry__2_slices_IndexFunc___api_Entry_api_Entry__L2_A) : fence_Check_slices_ContainsFunc___api_Entry_api_Entry__2_slices_IndexFunc___api_Entry_api_Entry__L2_B :=
 let v0 := x.1.2.2.1.1
 let v1 := x.1.2.2.2.1.1
 let v2 := x.2.1
 let v3 := x.2.2.1.1
 let v4 := x.2.2.1.2.1
 let v5 := x.2.2.1.2.2.1
 br (decide (v1 < v0))
 (req (zq751 v1 (lenL v2)) <|
 (geti v2 v1).bind fun p1 =>
 (zq601 p1 v3 v4 v5 v2).bind fun y2 =>
 br y2.1
 (some (Sum.inl (((v1,()),()),(v2,(v3,v4,v5,()),()))))
 (req (i64ok (v1 + 1)) <|
 rec (((),(),(v0,()),(v1 + 1,()),()),(v2,(v3,v4,v5,()),()))))
 (some (Sum.inr (((),(v2,(v3,v4,v5,()),())))))
def zq617 (a0 : Int) (a1 : Int) (a2 : Int) (a3 : List En) : Option (Int × Unit) :=
 (zq651 a0 0 999).bind fun y1 =>
 (br (!y1.1)
 (some true)
 ((zq651 a1 0 2).bind fun y2 =>
 some (!y2.1))).bind fun c2 =>
 (br c2
 (some true)
 ((zq651 a2 0 10009).bind fun y3 =>
 some (!y3.1))).bind fun c3 =>
 br c3
 (some (3,()))
 ((br (decide (a1 = 0))
 (br (!decide (a0 = 0))
 (some true)
 (some (!decide (a2 = 0))))
 (some false)).bind fun c4 =>
 br c4
 (br c4
 (some (4,()))
 ((zq1045 a3).bind fun y5 =>
 br (!decide (y5.1 = 0))
 (some (y5.1,()))
 ((loopN zq611 FUEL (((()),(()),(lenL a3,()),(0,()),()),(a3,(a0,a1,a2,()),()))).bind fun y6 =>
 sumC y6 (fun y7 =>
 br (decide (y7.1.1.1 ≥ 0))
 (some (4,()))
 (some (0,()))) (fun y8 =>
 some (0,())))))
 ((br (!decide (a1 = 0))
 (some (decide (a0 = 0)))
 (some false)).bind fun c5 =>
 br c5
 (some (4,()))
 ((zq1045 a3).bind fun y6 =>
 br (!decide (y6.1 = 0))
 (some (y6.1,()))
 ((loopN zq607 FUEL (((()),(()),(lenL a3,()),(0,()),()),(a3,(a0,a1,a2,()),()))).bind fun y7 =>
 sumC y7 (fun y8 =>
 br (decide (y8.1.1.1 ≥ 0))
 (some (4,()))
 (some (0,()))) (fun y9 =>
 some (0,()))))))
def zq1050 (a0 : En) (a1 : En) : Option (Bool × Unit) :=
 some (eqEn a0 a1,())
abbrev log_Is_slices_EqualFunc___api_Entry___api_Entry_api_Entry_api_Entry__L4_A := ((Unit × Unit × Unit × (Int × Unit) × (Int × Unit) × Unit) × (List En × List En × List En × Unit))
abbrev log_Is_slices_EqualFunc___api_Entry___api_Entry_api_Entry_api_Entry__L4_B := Option ((((Bool × Unit) × Unit) × (List En × List En × List En × Unit)) ⊕ (Unit × (List En × List En × List En × Unit)))
def zq1056 (rec : log_Is_slices_EqualFunc___api_Entry___api_Entry_api_Entry_api_Entry__L4_A → log_Is_slices_EqualFunc___api_Entry___api_Entry_api_Entry_api_Entry__L4_B) (x : log_Is_slices_EqualFunc___api_Entry___api_Entry_api_Entry_api_Entry__L4_A) : log_Is_slices_EqualFunc___api_Entry___api_Entry_api_Entry_api_Entry__L4_B :=
 let v0 := x.1.2.2.2.1.1
 let v1 := x.1.2.2.2.2.1.1
 let v2 := x.2.1
 let v3 := x.2.2.1
 let v4 := x.2.2.2.1
 br (decide (v1 < v0))
 (req (zq751 v1 (lenL v2)) <|
 (geti v2 v1).bind fun p1 =>
 req (zq751 v1 (lenL v4)) <|
 (geti v4 v1).bind fun p2 =>
 (zq1050 p1 p2).bind fun y3 =>
 br (!y3.1)
 (some (Sum.inl (((false,()),()),(v2,v3,v4,()))))
 (req (i64ok (v1 + 1)) <|
 rec (((),(),(),(v0,()),(v1 + 1,()),()),(v2,v3,v4,()))))
 (some (Sum.inr (((),(v2,v3,v4,())))))
def zq1062 (a0 : List En) (a1 : List En) : Option (Bool × Unit) :=
 br (decide (lenL a0 ≤ lenL a1))
 (req ((decide (0 ≤ lenL a0)) && (decide (lenL a0 ≤ lenL a1))) <|
 br (!decide (lenL a0 = lenL (subL a1 0 (lenL a0))))
 (some (false,()))
 ((loopN zq1056 FUEL (((()),(()),(()),(lenL a0,()),(0,()),()),(a0,a1,subL a1 0 (lenL a0),()))).bind fun y1 =>
 sumC y1 (fun y2 =>
 some (y2.1.1.1,())) (fun y3 =>
 some (true,()))))
 (some (false,()))
def zq483 (a0 : Int) (a1 : Int) (a2 : Int) (a3 : Int) (a4 : List En) (a5 : List Int × List (List En)) (a6 : Int) (a7 : List En) : Option (Int × Unit) :=
 (zq489 a6 0 a1).bind fun y1 =>
 br (!y1.1)
 (some (3,()))
 ((zq1045 a7).bind fun y2 =>
 br (!decide (y2.1 = 0))
 (some (y2.1,()))
 ((zq1062 a7 a4).bind fun y3 =>
 br (!y3.1)
 (some (4,()))
 (some (0,()))))
abbrev cluster_Check_L9_A := ((Unit × Unit × (Int × Unit) × (Int × Unit) × Unit) × (List En × List (List En) × List Int × (Int × Int × Int × Int × Unit) × Unit))
abbrev cluster_Check_L9_B := Option ((((Int × Unit) × Unit) × (List En × List (List En) × List Int × Unit)) ⊕ ((Unit × Unit) × (List En × List (List En) × List Int × (Int × Int × Int × Int × Unit) × Unit)))
def zq424 (rec : cluster_Check_L9_A → cluster_Check_L9_B) (x : cluster_Check_L9_A) : cluster_Check_L9_B :=
 let v0 := x.1.2.2.1.1
 let v1 := x.1.2.2.2.1.1
 let v2 := x.2.1
 let v3 := x.2.2.1
 let v4 := x.2.2.2.1
 let zz := x.2.2.2.2
 let v5 := zz.1.1
 let v6 := zz.1.2.1
 let v7 := zz.1.2.2.1
 let v8 := zz.1.2.2.2.1
 br (decide (v1 < v0))
 (req (zq751 v1 (lenL v4)) <|
 (geti v4 v1).bind fun p1 =>
 (zq483 v5 v6 v7 v8 v2 (v4,v3) p1 (getL v3 v1)).bind fun y2 =>
 br (!decide (y2.1 = 0))
 (some (Sum.inl (((y2.1,()),()),(v2,v3,v4,()))))
 (req (i64ok (v1 + 1)) <|
 rec (((),(),(v0,()),(v1 + 1,()),()),(v2,v3,v4,(v5,v6,v7,v8,()),()))))
 (some (Sum.inr ((((),()),(v2,v3,v4,(v5,v6,v7,v8,()),())))))
abbrev cluster_Check_L19_A := ((Unit × Unit × (Int × Unit) × (Int × Unit) × Unit) × (List En × List (List En) × List Int × (Int × Int × Int × Int × Unit) × Unit))
abbrev cluster_Check_L19_B := Option ((((Int × Unit) × Unit) × (List En × List (List En) × List Int × Unit)) ⊕ (Unit × (List En × List (List En) × List Int × Unit)))
def zq421 (rec : cluster_Check_L19_A → cluster_Check_L19_B) (x : cluster_Check_L19_A) : cluster_Check_L19_B :=
 let v0 := x.1.2.2.1.1
 let v1 := x.1.2.2.2.1.1
 let v2 := x.2.1
 let v3 := x.2.2.1
 let v4 := x.2.2.2.1
 let zz := x.2.2.2.2
 let v5 := zz.1.1
 let v6 := zz.1.2.1
 let v7 := zz.1.2.2.1
 let v8 := zz.1.2.2.2.1
 br (decide (v1 < v0))
 (req (zq751 v1 (lenL v4)) <|
 (geti v4 v1).bind fun p1 =>
 (br (!decide (p1 = 0))
 (some (decide (p1 = v6)))
 (some false)).bind fun c2 =>
 (br c2
 (req (i64ok (v1 + 1)) <|
 some (!decide (v7 = v1 + 1)))
 (some false)).bind fun c3 =>
 br c3
 (some (Sum.inl (((4,()),()),(v2,v3,v4,()))))
 (req (i64ok (v1 + 1)) <|
 rec (((),(),(v0,()),(v1 + 1,()),()),(v2,v3,v4,(v5,v6,v7,v8,()),()))))
 (some (Sum.inr (((),(v2,v3,v4,())))))
def zq432 (a0 : Int) (a1 : Int) (a2 : Int) (a3 : Int) (a4 : List En) (a5 : List Int × List (List En)) : Option (Int × Unit) :=
 (zq489 a0 0 9999).bind fun y1 =>
 br (!y1.1)
 (some (3,()))
 ((zq617 a1 a2 a3 a4).bind fun y2 =>
 br (!decide (y2.1 = 0))
 (some (y2.1,()))
 (br (!decide (lenL a5.1 = 2))
 (some (1,()))
 ((loopN zq424 FUEL (((()),(()),(lenL a5.1,()),(0,()),()),(a4,a5.2,a5.1,(a0,a1,a2,a3,()),()))).bind fun y3 =>
 sumC y3 (fun y4 =>
 some (y4.1.1.1,())) (fun y5 =>
 req (zq751 0 (lenL y5.2.2.2.1)) <|
 req (zq751 0 (lenL y5.2.2.2.1)) <|
 (geti y5.2.2.2.1 0).bind fun p6 =>
 req (zq751 1 (lenL y5.2.2.2.1)) <|
 req (zq751 1 (lenL y5.2.2.2.1)) <|
 (geti y5.2.2.2.1 1).bind fun p7 =>
 (br (!decide (p6 = 0))
 (some (decide (p6 = p7)))
 (some false)).bind fun c8 =>
 br c8
 (some (4,()))
 ((loopN zq421 FUEL (((()),(()),(lenL y5.2.2.2.1,()),(0,()),()),(y5.2.1,y5.2.2.1,y5.2.2.2.1,(y5.2.2.2.2.1.1,y5.2.2.2.2.1.2.1,y5.2.2.2.2.1.2.2.1,y5.2.2.2.2.1.2.2.2.1,()),()))).bind fun y9 =>
 sumC y9 (fun y10 =>
 some (y10.1.1.1,())) (fun y11 =>
 some (0,())))))))
def zq477 (a0 : Int) (a1 : Ev) : Option (Int × Unit) :=
 (zq489 a1.kind 1 5).bind fun y1 =>
 br (!y1.1)
 (some (7,()))
 ((br (decide (a1.kind = 1))
 (some (!decide (a1.who = 0)))
 (some false)).bind fun c2 =>
 br c2
 (br c2
 (some (1,()))
 ((br (!decide (a1.kind = 1))
 ((zq489 a1.who 1 2).bind fun y3 =>
 some (!y3.1))
 (some false)).bind fun c3 =>
 br c3
 (br c3
 (some (3,()))
 (some (0,())))
 ((br (decide (a1.kind = 4))
 ((zq489 a1.n 0 30).bind fun y4 =>
 some (!y4.1))
 (some false)).bind fun c4 =>
 br c4
 (br c4
 (some (3,()))
 (some (0,())))
 ((br (decide (a1.kind = 1))
 (req (i64ok (9999 - a0)) <|
 (zq489 a1.n 0 (9999 - a0)).bind fun y5 =>
 some (!y5.1))
 (some false)).bind fun c5 =>
 br c5
 (some (3,()))
 (some (0,()))))))
 ((br (!decide (a1.kind = 1))
 (some (!decide (a1.kind = 4)))
 (some false)).bind fun c3 =>
 (br c3
 (some (!decide (a1.n = 0)))
 (some false)).bind fun c4 =>
 br c4
 (br c4
 (some (1,()))
 ((br (!decide (a1.kind = 1))
 ((zq489 a1.who 1 2).bind fun y5 =>
 some (!y5.1))
 (some false)).bind fun c5 =>
 br c5
 (br c5
 (some (3,()))
 (some (0,())))
 ((br (decide (a1.kind = 4))
 ((zq489 a1.n 0 30).bind fun y6 =>
 some (!y6.1))
 (some false)).bind fun c6 =>
 br c6
 (br c6
 (some (3,()))
 (some (0,())))
 ((br (decide (a1.kind = 1))
 (req (i64ok (9999 - a0)) <|
 (zq489 a1.n 0 (9999 - a0)).bind fun y7 =>
 some (!y7.1))
 (some false)).bind fun c7 =>
 br c7
 (some (3,()))
 (some (0,()))))))
 ((br (!decide (a1.kind = 3))
 (some (!(eqOq a1.op (⟨0,(⟨(⟨false,0,0⟩ : Ad),0⟩ : Pf),(⟨false,0,0⟩ : Ad),(ByteArray.empty),0,0⟩ : Oq))))
 (some false)).bind fun c5 =>
 br c5
 (some (1,()))
 ((br (!decide (a1.kind = 1))
 ((zq489 a1.who 1 2).bind fun y6 =>
 some (!y6.1))
 (some false)).bind fun c6 =>
 br c6
 (br c6
 (some (3,()))
 (some (0,())))
 ((br (decide (a1.kind = 4))
 ((zq489 a1.n 0 30).bind fun y7 =>
 some (!y7.1))
 (some false)).bind fun c7 =>
 br c7
 (br c7
 (some (3,()))
 (some (0,())))
 ((br (decide (a1.kind = 1))
 (req (i64ok (9999 - a0)) <|
 (zq489 a1.n 0 (9999 - a0)).bind fun y8 =>
 some (!y8.1))
 (some false)).bind fun c8 =>
 br c8
 (some (3,()))
 (some (0,()))))))))
def zq1594 (a0 : List En) : Option ((List En) × Unit) :=
 nilB a0.length
 (some (([] : List En),()))
 (req (room (lenL ([] : List En)) (lenL a0)) <|
 some (([] : List En) ++ a0,()))
def zq632 (a0 : Int) (a1 : Int) (a2 : Int) (a3 : List En) : Option ((Int × Int × Int × (List En) × Unit) × Unit) :=
 (zq1594 a3).bind fun y1 =>
 some ((a0,a1,a2,y1.1,()),())
def zq626 (a0 : Int) (a1 : Int) (a2 : Int) (a3 : List En) (a4 : Int) (a5 : Int) : Option ((Int × Int × Int × (List En) × Unit) × Int × Unit) :=
 (zq632 a0 a1 a2 a3).bind fun y1 =>
 (br (decide (y1.1.2.1 = 0))
 (some true)
 (some (decide (y1.1.2.2.1 < a5)))).bind fun c2 =>
 (br (!c2)
 (some (!decide (y1.1.2.1 = a4)))
 (some false)).bind fun c3 =>
 br c3
 (some ((0,0,0,([] : List En),()),4,()))
 ((br c2
 (some (decide (y1.1.1 = 999)))
 (some false)).bind fun c4 =>
 br c4
 (some ((0,0,0,([] : List En),()),2,()))
 (br c2
 (req (i64ok (y1.1.1 + 1)) <|
 req (i64ok (a5 + 10)) <|
 some ((y1.1.1 + 1,a4,a5 + 10,y1.1.2.2.2.1,()),0,()))
 (req (i64ok (a5 + 10)) <|
 some ((y1.1.1,a4,a5 + 10,y1.1.2.2.2.1,()),0,()))))
def zq1068 (a0 : List En) (a1 : Int) (a2 : Oq) : Option ((List En) × Int × Unit) :=
 (zq1081 a1).bind fun y1 =>
 br (!y1.1)
 (some (([] : List En),3,()))
 ((br (decide (lenL a0 > 0))
 (req (i64ok ((lenL a0) - 1)) <|
 req (zq751 ((lenL a0) - 1) (lenL a0)) <|
 req (zq751 ((lenL a0) - 1) (lenL a0)) <|
 (geti a0 ((lenL a0) - 1)).bind fun p2 =>
 some (decide (a1 < p2.epoch)))
 (some false)).bind fun c2 =>
 br c2
 (some (([] : List En),4,()))
 ((zq1661 a2).bind fun y3 =>
 br (!decide (y3.1 = 0))
 (some (([] : List En),y3.1,()))
 (br (decide (lenL a0 = 30))
 (some (([] : List En),2,()))
 (req (i64ok ((lenL a0) + 1)) <|
 dup 1 <|
 (zq1594 a0).bind fun y4 =>
 req (room (lenL y4.1) (lenL ([(⟨(lenL a0) + 1,a1,a2⟩ : En)] : List En))) <|
 some (y4.1 ++ ([(⟨(lenL a0) + 1,a1,a2⟩ : En)] : List En),0,())))))
def zq638 (a0 : Int) (a1 : Int) (a2 : Int) (a3 : List En) (a4 : Int) (a5 : Oq) : Option ((Int × Int × Int × (List En) × Unit) × Int × Unit) :=
 (br (decide (a4 = 0))
 (some true)
 (some (!decide (a4 = a0)))).bind fun c1 =>
 br c1
 (some ((0,0,0,([] : List En),()),4,()))
 ((zq1068 a3 a4 a5).bind fun y2 =>
 br (!decide (y2.2.1 = 0))
 (some ((0,0,0,([] : List En),()),y2.2.1,()))
 (some ((a0,a1,a2,y2.1,()),0,())))
def zq1548 (a0 : List En) (a1 : List En) (a2 : Int) : Option ((List En) × Unit) :=
 req (i64ok ((lenL a0) + a2)) <|
 req (((decide (0 ≤ lenL a0)) && (decide (lenL a0 ≤ minI (lenL a1) ((lenL a0) + a2)))) && (decide (minI (lenL a1) ((lenL a0) + a2) ≤ lenL a1))) <|
 (zq1594 (subL a1 (lenL a0) (minI (lenL a1) ((lenL a0) + a2)))).bind fun y1 =>
 some (y1.1,())
abbrev cluster_Do_cluster_own_L3_A := ((Unit × Unit × (Int × Unit) × (Int × Unit) × Unit) × (List En × List (List En) × List Int × (Int × Int × Int × Int × Unit) × (Ev × Unit) × (Int × Int × Int × Int × Unit) × List En × List Int × List (List En) × (Int × Int × Int × Int × Unit) × List En × List Int × List (List En) × Unit))
abbrev cluster_Do_cluster_own_L3_B := Option ((Unit × Unit) × (List En × List (List En) × List Int × (Int × Int × Int × Int × Unit) × (Ev × Unit) × (Int × Int × Int × Int × Unit) × List En × List Int × List (List En) × (Int × Int × Int × Int × Unit) × List En × List Int × List (List En) × Unit))
def zq440 (rec : cluster_Do_cluster_own_L3_A → cluster_Do_cluster_own_L3_B) (x : cluster_Do_cluster_own_L3_A) : cluster_Do_cluster_own_L3_B :=
 let v0 := x.1.2.2.1.1
 let v1 := x.1.2.2.2.1.1
 let v2 := x.2.1
 let v3 := x.2.2.1
 let v4 := x.2.2.2.1
 let v5 := x.2.2.2.2.1.1
 let v6 := x.2.2.2.2.1.2.1
 let v7 := x.2.2.2.2.1.2.2.1
 let v8 := x.2.2.2.2.1.2.2.2.1
 let v9 := x.2.2.2.2.2.1.1
 let zz := x.2.2.2.2.2.2
 let v10 := zz.1.1
 let v11 := zz.1.2.1
 let v12 := zz.1.2.2.1
 let v13 := zz.1.2.2.2.1
 let v14 := zz.2.1
 let v15 := zz.2.2.1
 let v16 := zz.2.2.2.1
 let v17 := zz.2.2.2.2.1.1
 let v18 := zz.2.2.2.2.1.2.1
 let v19 := zz.2.2.2.2.1.2.2.1
 let v20 := zz.2.2.2.2.1.2.2.2.1
 let v21 := zz.2.2.2.2.2.1
 let v22 := zz.2.2.2.2.2.2.1
 let v23 := zz.2.2.2.2.2.2.2.1
 br (decide (v1 < v0))
 (req (zq751 v1 (lenL v4)) <|
 (geti v4 v1).bind fun p1 =>
 both
 (both
 (both
 (both
 ((zq1594 (getL v3 v1)).bind fun y2 =>
 req (room (lenL v22) (lenL ([p1] : List Int))) <|
 req (i64ok (v1 + 1)) <|
 rec (((),(),(v0,()),(v1 + 1,()),()),(v2,v3,v4,(v5,v6,v7,v8,()),(v9,()),(v10,v11,v12,v13,()),v14,v15,v16,(v17,v18,v19,v20,()),v21,v22 ++ ([p1] : List Int),padL v22.length v23 ++ ([y2.1] : List (List En)),())))
 ((zq1594 (getL v3 v1)).bind fun y2 =>
 dup 1 <|
 req (room (lenL v22) (lenL ([p1] : List Int))) <|
 req (i64ok (v1 + 1)) <|
 rec (((),(),(v0,()),(v1 + 1,()),()),(v2,v3,v4,(v5,v6,v7,v8,()),(v9,()),(v10,v11,v12,v13,()),v14,v15,v16,(v17,v18,v19,v20,()),v21,v22 ++ ([p1] : List Int),padL v22.length v23 ++ ([y2.1] : List (List En)),()))))
 ((zq1594 (getL v3 v1)).bind fun y2 =>
 both
 (dup 1 <|
 req (room (lenL v22) (lenL ([p1] : List Int))) <|
 req (i64ok (v1 + 1)) <|
 rec (((),(),(v0,()),(v1 + 1,()),()),(v2,v3,v4,(v5,v6,v7,v8,()),(v9,()),(v10,v11,v12,v13,()),v14,v15,v16,(v17,v18,v19,v20,()),v21,v22 ++ ([p1] : List Int),padL v22.length v23 ++ ([y2.1] : List (List En)),())))
 (req (room (lenL v22) (lenL ([p1] : List Int))) <|
 req (i64ok (v1 + 1)) <|
 rec (((),(),(v0,()),(v1 + 1,()),()),(v2,v3,v4,(v5,v6,v7,v8,()),(v9,()),(v10,v11,v12,v13,()),v14,v15,v16,(v17,v18,v19,v20,()),v21,v22 ++ ([p1] : List Int),padL v22.length v23 ++ ([y2.1] : List (List En)),())))))
 ((zq1594 (getL v3 v1)).bind fun y2 =>
 both
 (both
 (dup 1 <|
 req (room (lenL v22) (lenL ([p1] : List Int))) <|
 req (i64ok (v1 + 1)) <|
 rec (((),(),(v0,()),(v1 + 1,()),()),(v2,v3,v4,(v5,v6,v7,v8,()),(v9,()),(v10,v11,v12,v13,()),v14,v15,v16,(v17,v18,v19,v20,()),v21,v22 ++ ([p1] : List Int),padL v22.length v23 ++ ([y2.1] : List (List En)),())))
 (req (room (lenL v22) (lenL ([p1] : List Int))) <|
 req (i64ok (v1 + 1)) <|
 rec (((),(),(v0,()),(v1 + 1,()),()),(v2,v3,v4,(v5,v6,v7,v8,()),(v9,()),(v10,v11,v12,v13,()),v14,v15,v16,(v17,v18,v19,v20,()),v21,v22 ++ ([p1] : List Int),padL v22.length v23 ++ ([y2.1] : List (List En)),()))))
 (req (room (lenL v22) (lenL ([p1] : List Int))) <|
 req (i64ok (v1 + 1)) <|
 rec (((),(),(v0,()),(v1 + 1,()),()),(v2,v3,v4,(v5,v6,v7,v8,()),(v9,()),(v10,v11,v12,v13,()),v14,v15,v16,(v17,v18,v19,v20,()),v21,v22 ++ ([p1] : List Int),padL v22.length v23 ++ ([y2.1] : List (List En)),())))))
 ((zq1594 (getL v3 v1)).bind fun y2 =>
 both
 (both
 (both
 (dup 1 <|
 req (room (lenL v22) (lenL ([p1] : List Int))) <|
 req (i64ok (v1 + 1)) <|
 rec (((),(),(v0,()),(v1 + 1,()),()),(v2,v3,v4,(v5,v6,v7,v8,()),(v9,()),(v10,v11,v12,v13,()),v14,v15,v16,(v17,v18,v19,v20,()),v21,v22 ++ ([p1] : List Int),padL v22.length v23 ++ ([y2.1] : List (List En)),())))
 (req (room (lenL v22) (lenL ([p1] : List Int))) <|
 req (i64ok (v1 + 1)) <|
 rec (((),(),(v0,()),(v1 + 1,()),()),(v2,v3,v4,(v5,v6,v7,v8,()),(v9,()),(v10,v11,v12,v13,()),v14,v15,v16,(v17,v18,v19,v20,()),v21,v22 ++ ([p1] : List Int),padL v22.length v23 ++ ([y2.1] : List (List En)),()))))
 (req (room (lenL v22) (lenL ([p1] : List Int))) <|
 req (i64ok (v1 + 1)) <|
 rec (((),(),(v0,()),(v1 + 1,()),()),(v2,v3,v4,(v5,v6,v7,v8,()),(v9,()),(v10,v11,v12,v13,()),v14,v15,v16,(v17,v18,v19,v20,()),v21,v22 ++ ([p1] : List Int),padL v22.length v23 ++ ([y2.1] : List (List En)),()))))
 (req (room (lenL v22) (lenL ([p1] : List Int))) <|
 req (i64ok (v1 + 1)) <|
 rec (((),(),(v0,()),(v1 + 1,()),()),(v2,v3,v4,(v5,v6,v7,v8,()),(v9,()),(v10,v11,v12,v13,()),v14,v15,v16,(v17,v18,v19,v20,()),v21,v22 ++ ([p1] : List Int),padL v22.length v23 ++ ([y2.1] : List (List En)),())))))
 (some (((),()),(v2,v3,v4,(v5,v6,v7,v8,()),(v9,()),(v10,v11,v12,v13,()),v14,v15,v16,(v17,v18,v19,v20,()),v21,v22,v23,())))
def zq451 (a0 : Int) (a1 : Int) (a2 : Int) (a3 : Int) (a4 : List En) (a5 : List Int × List (List En)) (a6 : Ev) : Option ((Int × Int × Int × Int × (List En) × (List Int × List (List En)) × Unit) × Bool × Int × Unit) :=
 (zq432 a0 a1 a2 a3 a4 a5).bind fun y1 =>
 (br (decide (y1.1 = 0))
 ((zq477 a0 a6).bind fun y2 =>
 some (((()),(()),(()),(y2.1,()),()),(a4,a5.2,a5.1,(a0,a1,a2,a3,()),(a6,()),(0,0,0,0,()),([] : List En),([] : List Int),([] : List (List En)),())))
 (some (((()),(()),(()),(y1.1,()),()),(a4,a5.2,a5.1,(a0,a1,a2,a3,()),(a6,()),(0,0,0,0,()),([] : List En),([] : List Int),([] : List (List En)),())))).bind fun y3 =>
 br (!decide (y3.1.2.2.2.1.1 = 0))
 (some ((0,0,0,0,([] : List En),(([] : List Int),([] : List (List En))),()),false,y3.1.2.2.2.1.1,()))
 ((zq632 y3.2.2.2.2.1.2.1 y3.2.2.2.2.1.2.2.1 y3.2.2.2.2.1.2.2.2.1 y3.2.1).bind fun y4 =>
 (loopN zq440 FUEL (((()),(()),(lenL y3.2.2.2.1,()),(0,()),()),(y3.2.1,y3.2.2.1,y3.2.2.2.1,(y3.2.2.2.2.1.1,y3.2.2.2.2.1.2.1,y3.2.2.2.2.1.2.2.1,y3.2.2.2.2.1.2.2.2.1,()),(y3.2.2.2.2.2.1.1,()),(y3.2.2.2.2.2.2.1.1,y3.2.2.2.2.2.2.1.2.1,y3.2.2.2.2.2.2.1.2.2.1,y3.2.2.2.2.2.2.1.2.2.2.1,()),y3.2.2.2.2.2.2.2.1,y3.2.2.2.2.2.2.2.2.1,y3.2.2.2.2.2.2.2.2.2.1,(y3.2.2.2.2.1.1,y4.1.1,y4.1.2.1,y4.1.2.2.1,()),y4.1.2.2.2.1,([] : List Int),([] : List (List En)),()))).bind fun y5 =>
 br (decide (y5.2.2.2.2.2.1.1.kind = 1))
 (req (i64ok (y5.2.2.2.2.2.2.2.2.2.2.1.1 + y5.2.2.2.2.2.1.1.n)) <|
 some ((y5.2.2.2.2.2.2.2.2.2.2.1.1 + y5.2.2.2.2.2.1.1.n,y5.2.2.2.2.2.2.2.2.2.2.1.2.1,y5.2.2.2.2.2.2.2.2.2.2.1.2.2.1,y5.2.2.2.2.2.2.2.2.2.2.1.2.2.2.1,y5.2.2.2.2.2.2.2.2.2.2.2.1,(y5.2.2.2.2.2.2.2.2.2.2.2.2.1,y5.2.2.2.2.2.2.2.2.2.2.2.2.2.1),()),true,0,()))
 (req (i64ok (y5.2.2.2.2.2.1.1.who - 1)) <|
 req (zq751 (y5.2.2.2.2.2.1.1.who - 1) (lenL y5.2.2.2.2.2.2.2.2.2.2.2.2.1)) <|
 br (decide (y5.2.2.2.2.2.1.1.kind = 2))
 (dup 1 <|
 (zq626 y5.2.2.2.2.2.2.2.2.2.2.1.2.1 y5.2.2.2.2.2.2.2.2.2.2.1.2.2.1 y5.2.2.2.2.2.2.2.2.2.2.1.2.2.2.1 y5.2.2.2.2.2.2.2.2.2.2.2.1 y5.2.2.2.2.2.1.1.who y5.2.2.2.2.2.2.2.2.2.2.1.1).bind fun y6 =>
 br (decide (y6.2.1 = 0))
 (br (decide (y6.2.1 = 0))
 (req (zq751 (y5.2.2.2.2.2.1.1.who - 1) (lenL y5.2.2.2.2.2.2.2.2.2.2.2.2.1)) <|
 req (zq751 (y5.2.2.2.2.2.1.1.who - 1) (lenL y5.2.2.2.2.2.2.2.2.2.2.2.2.1)) <|
 (geti y5.2.2.2.2.2.2.2.2.2.2.2.2.1 (y5.2.2.2.2.2.1.1.who - 1)).bind fun p7 =>
 some ((y5.2.2.2.2.2.2.2.2.2.2.1.1,y6.1.1,y6.1.2.1,y6.1.2.2.1,y6.1.2.2.2.1,(seti y5.2.2.2.2.2.2.2.2.2.2.2.2.1 (y5.2.2.2.2.2.1.1.who - 1) y6.1.1,y5.2.2.2.2.2.2.2.2.2.2.2.2.2.1),()),true,0,()))
 (some ((y5.2.2.2.2.2.2.2.2.2.2.1.1,y6.1.1,y6.1.2.1,y6.1.2.2.1,y6.1.2.2.2.1,(y5.2.2.2.2.2.2.2.2.2.2.2.2.1,y5.2.2.2.2.2.2.2.2.2.2.2.2.2.1),()),false,0,())))
 (br (decide (y6.2.1 = 0))
 (req (zq751 (y5.2.2.2.2.2.1.1.who - 1) (lenL y5.2.2.2.2.2.2.2.2.2.2.2.2.1)) <|
 req (zq751 (y5.2.2.2.2.2.1.1.who - 1) (lenL y5.2.2.2.2.2.2.2.2.2.2.2.2.1)) <|
 (geti y5.2.2.2.2.2.2.2.2.2.2.2.2.1 (y5.2.2.2.2.2.1.1.who - 1)).bind fun p7 =>
 some ((y5.2.2.2.2.2.2.2.2.2.2.1.1,y5.2.2.2.2.2.2.2.2.2.2.1.2.1,y5.2.2.2.2.2.2.2.2.2.2.1.2.2.1,y5.2.2.2.2.2.2.2.2.2.2.1.2.2.2.1,y5.2.2.2.2.2.2.2.2.2.2.2.1,(seti y5.2.2.2.2.2.2.2.2.2.2.2.2.1 (y5.2.2.2.2.2.1.1.who - 1) y6.1.1,y5.2.2.2.2.2.2.2.2.2.2.2.2.2.1),()),true,0,()))
 (some ((y5.2.2.2.2.2.2.2.2.2.2.1.1,y5.2.2.2.2.2.2.2.2.2.2.1.2.1,y5.2.2.2.2.2.2.2.2.2.2.1.2.2.1,y5.2.2.2.2.2.2.2.2.2.2.1.2.2.2.1,y5.2.2.2.2.2.2.2.2.2.2.2.1,(y5.2.2.2.2.2.2.2.2.2.2.2.2.1,y5.2.2.2.2.2.2.2.2.2.2.2.2.2.1),()),false,0,()))))
 (br (decide (y5.2.2.2.2.2.1.1.kind = 3))
 (req (zq751 (y5.2.2.2.2.2.1.1.who - 1) (lenL y5.2.2.2.2.2.2.2.2.2.2.2.2.1)) <|
 req (zq751 (y5.2.2.2.2.2.1.1.who - 1) (lenL y5.2.2.2.2.2.2.2.2.2.2.2.2.1)) <|
 (geti y5.2.2.2.2.2.2.2.2.2.2.2.2.1 (y5.2.2.2.2.2.1.1.who - 1)).bind fun p6 =>
 dup 1 <|
 (zq638 y5.2.2.2.2.2.2.2.2.2.2.1.2.1 y5.2.2.2.2.2.2.2.2.2.2.1.2.2.1 y5.2.2.2.2.2.2.2.2.2.2.1.2.2.2.1 y5.2.2.2.2.2.2.2.2.2.2.2.1 p6 y5.2.2.2.2.2.1.1.op).bind fun y7 =>
 br (decide (y7.2.1 = 0))
 (some ((y5.2.2.2.2.2.2.2.2.2.2.1.1,y7.1.1,y7.1.2.1,y7.1.2.2.1,y7.1.2.2.2.1,(y5.2.2.2.2.2.2.2.2.2.2.2.2.1,y5.2.2.2.2.2.2.2.2.2.2.2.2.2.1),()),decide (y7.2.1 = 0),0,()))
 (some ((y5.2.2.2.2.2.2.2.2.2.2.1.1,y5.2.2.2.2.2.2.2.2.2.2.1.2.1,y5.2.2.2.2.2.2.2.2.2.2.1.2.2.1,y5.2.2.2.2.2.2.2.2.2.2.1.2.2.2.1,y5.2.2.2.2.2.2.2.2.2.2.2.1,(y5.2.2.2.2.2.2.2.2.2.2.2.2.1,y5.2.2.2.2.2.2.2.2.2.2.2.2.2.1),()),decide (y7.2.1 = 0),0,())))
 (br (decide (y5.2.2.2.2.2.1.1.kind = 4))
 (req (zq751 (y5.2.2.2.2.2.1.1.who - 1) (lenL y5.2.2.2.2.2.2.2.2.2.2.2.2.1)) <|
 req (zq751 (y5.2.2.2.2.2.1.1.who - 1) (lenL y5.2.2.2.2.2.2.2.2.2.2.2.2.1)) <|
 (geti y5.2.2.2.2.2.2.2.2.2.2.2.2.1 (y5.2.2.2.2.2.1.1.who - 1)).bind fun p6 =>
 req (zq751 (y5.2.2.2.2.2.1.1.who - 1) (lenL y5.2.2.2.2.2.2.2.2.2.2.2.2.1)) <|
 req (zq751 (y5.2.2.2.2.2.1.1.who - 1) (lenL y5.2.2.2.2.2.2.2.2.2.2.2.2.1)) <|
 (geti y5.2.2.2.2.2.2.2.2.2.2.2.2.1 (y5.2.2.2.2.2.1.1.who - 1)).bind fun p7 =>
 (zq1548 (getL y5.2.2.2.2.2.2.2.2.2.2.2.2.2.1 (y5.2.2.2.2.2.1.1.who - 1)) y5.2.2.2.2.2.2.2.2.2.2.2.1 y5.2.2.2.2.2.1.1.n).bind fun y8 =>
 req (decide (0 ≤ y5.2.2.2.2.2.1.1.who - 1)) <|
 req (room (lenL (getL y5.2.2.2.2.2.2.2.2.2.2.2.2.2.1 (y5.2.2.2.2.2.1.1.who - 1))) (lenL y8.1)) <|
 req (zq751 (y5.2.2.2.2.2.1.1.who - 1) (lenL y5.2.2.2.2.2.2.2.2.2.2.2.2.1)) <|
 req (zq751 (y5.2.2.2.2.2.1.1.who - 1) (lenL y5.2.2.2.2.2.2.2.2.2.2.2.2.1)) <|
 req (decide (y5.2.2.2.2.2.1.1.who - 1 = y5.2.2.2.2.2.1.1.who - 1)) <|
 (geti y5.2.2.2.2.2.2.2.2.2.2.2.2.1 (y5.2.2.2.2.2.1.1.who - 1)).bind fun p9 =>
 some ((y5.2.2.2.2.2.2.2.2.2.2.1.1,y5.2.2.2.2.2.2.2.2.2.2.1.2.1,y5.2.2.2.2.2.2.2.2.2.2.1.2.2.1,y5.2.2.2.2.2.2.2.2.2.2.1.2.2.2.1,y5.2.2.2.2.2.2.2.2.2.2.2.1,(seti y5.2.2.2.2.2.2.2.2.2.2.2.2.1 (y5.2.2.2.2.2.1.1.who - 1) p9,seti (padL y5.2.2.2.2.2.2.2.2.2.2.2.2.1.length (outL y5.2.2.2.2.2.2.2.2.2.2.2.2.2.1 (y5.2.2.2.2.2.1.1.who - 1))) (y5.2.2.2.2.2.1.1.who - 1) ((getL y5.2.2.2.2.2.2.2.2.2.2.2.2.2.1 (y5.2.2.2.2.2.1.1.who - 1)) ++ y8.1)),()),true,0,()))
 (br (decide (y5.2.2.2.2.2.1.1.kind = 5))
 (req (zq751 (y5.2.2.2.2.2.1.1.who - 1) (lenL y5.2.2.2.2.2.2.2.2.2.2.2.2.1)) <|
 (geti y5.2.2.2.2.2.2.2.2.2.2.2.2.1 (y5.2.2.2.2.2.1.1.who - 1)).bind fun p6 =>
 some ((y5.2.2.2.2.2.2.2.2.2.2.1.1,y5.2.2.2.2.2.2.2.2.2.2.1.2.1,y5.2.2.2.2.2.2.2.2.2.2.1.2.2.1,y5.2.2.2.2.2.2.2.2.2.2.1.2.2.2.1,y5.2.2.2.2.2.2.2.2.2.2.2.1,(seti y5.2.2.2.2.2.2.2.2.2.2.2.2.1 (y5.2.2.2.2.2.1.1.who - 1) 0,seti (padL y5.2.2.2.2.2.2.2.2.2.2.2.2.1.length y5.2.2.2.2.2.2.2.2.2.2.2.2.2.1) (y5.2.2.2.2.2.1.1.who - 1) ([] : List En)),()),true,0,()))
 (some ((y5.2.2.2.2.2.2.2.2.2.2.1.1,y5.2.2.2.2.2.2.2.2.2.2.1.2.1,y5.2.2.2.2.2.2.2.2.2.2.1.2.2.1,y5.2.2.2.2.2.2.2.2.2.2.1.2.2.2.1,y5.2.2.2.2.2.2.2.2.2.2.2.1,(y5.2.2.2.2.2.2.2.2.2.2.2.2.1,y5.2.2.2.2.2.2.2.2.2.2.2.2.2.1),()),true,0,())))))))
abbrev cluster_Run_L6_A := ((Unit × Unit × Unit × Unit × (Int × Unit) × (Int × Unit) × Unit) × (List Ev × (Int × Int × Int × Int × Unit) × (Int × Int × Int × Int × Unit) × List Bool × List En × List Int × List En × List Int × List (List En) × List (List En) × Unit))
abbrev cluster_Run_L6_B := Option (((Unit × Unit × (Int × Unit) × Unit) × (List Ev × (Int × Int × Int × Int × Unit) × List Bool × List En × List Int × List (List En) × Unit)) ⊕ ((Unit × Unit × Unit × Unit) × (List Ev × (Int × Int × Int × Int × Unit) × (Int × Int × Int × Int × Unit) × List Bool × List En × List Int × List En × List Int × List (List En) × List (List En) × Unit)))
def zq457 (rec : cluster_Run_L6_A → cluster_Run_L6_B) (x : cluster_Run_L6_A) : cluster_Run_L6_B :=
 let v0 := x.1.2.2.2.2.1.1
 let v1 := x.1.2.2.2.2.2.1.1
 let v2 := x.2.1
 let v3 := x.2.2.1.1
 let v4 := x.2.2.1.2.1
 let v5 := x.2.2.1.2.2.1
 let v6 := x.2.2.1.2.2.2.1
 let zz := x.2.2.2
 let v7 := zz.1.1
 let v8 := zz.1.2.1
 let v9 := zz.1.2.2.1
 let v10 := zz.1.2.2.2.1
 let v11 := zz.2.1
 let v12 := zz.2.2.1
 let v13 := zz.2.2.2.1
 let v14 := zz.2.2.2.2.1
 let v15 := zz.2.2.2.2.2.1
 let v16 := zz.2.2.2.2.2.2.1
 let v17 := zz.2.2.2.2.2.2.2.1
 br (decide (v1 < v0))
 (req (zq751 v1 (lenL v2)) <|
 (geti v2 v1).bind fun p1 =>
 (zq451 v7 v8 v9 v10 v14 (v15,v17) p1).bind fun y2 =>
 br (!decide (y2.2.2.1 = 0))
 (some (Sum.inl (((),(),(y2.2.2.1,()),()),(v2,(0,0,0,0,()),[],[],[],[],()))))
 (req (room (lenL v11) (lenL ([y2.2.1] : List Bool))) <|
 req (i64ok (v1 + 1)) <|
 rec (((),(),(),(),(v0,()),(v1 + 1,()),()),(v2,(v3,v4,v5,v6,()),(y2.1.1,y2.1.2.1,y2.1.2.2.1,y2.1.2.2.2.1,()),v11 ++ ([y2.2.1] : List Bool),v12,v13,y2.1.2.2.2.2.1,y2.1.2.2.2.2.2.1.1,v16,y2.1.2.2.2.2.2.1.2,()))))
 (some (Sum.inr ((((),(),(),()),(v2,(v3,v4,v5,v6,()),(v7,v8,v9,v10,()),v11,v12,v13,v14,v15,v16,v17,())))))
def zq465 (a0 : List Ev) : Option ((Int × Int × Int × Int × (List En) × (List Int × List (List En)) × Unit) × (List Bool) × Int × Unit) :=
 br (decide (lenL a0 > 40))
 (some ((0,0,0,0,([] : List En),(([] : List Int),([] : List (List En))),()),([] : List Bool),2,()))
 (zq456.bind fun y1 =>
 (loopN zq457 FUEL (((()),(()),(()),(()),(lenL a0,()),(0,()),()),(a0,(0,0,0,0,()),(y1.1.1,y1.1.2.1,y1.1.2.2.1,y1.1.2.2.2.1,()),([] : List Bool),([] : List En),([] : List Int),y1.1.2.2.2.2.1,y1.1.2.2.2.2.2.1.1,([] : List (List En)),y1.1.2.2.2.2.2.1.2,()))).bind fun y2 =>
 sumC y2 (fun y3 =>
 some ((y3.2.2.1.1,y3.2.2.1.2.1,y3.2.2.1.2.2.1,y3.2.2.1.2.2.2.1,y3.2.2.2.2.1,(y3.2.2.2.2.2.1,y3.2.2.2.2.2.2.1),()),y3.2.2.2.1,y3.1.2.2.1.1,())) (fun y4 =>
 some ((y4.2.2.2.1.1,y4.2.2.2.1.2.1,y4.2.2.2.1.2.2.1,y4.2.2.2.1.2.2.2.1,y4.2.2.2.2.2.2.2.1,(y4.2.2.2.2.2.2.2.2.1,y4.2.2.2.2.2.2.2.2.2.2.1),()),y4.2.2.2.2.1,0,())))
def zq1599 (a0 : List Ls) : Option ((List Ls) × Unit) :=
 nilB a0.length
 (some (([] : List Ls),()))
 (req (room (lenL ([] : List Ls)) (lenL a0)) <|
 some (([] : List Ls) ++ a0,()))
def zq1589 (a0 : List Ad) : Option ((List Ad) × Unit) :=
 nilB a0.length
 (some (([] : List Ad),()))
 (req (room (lenL ([] : List Ad)) (lenL a0)) <|
 some (([] : List Ad) ++ a0,()))
abbrev state_Own_L3_A := ((Unit × Unit × Unit × (Int × Unit) × (Int × Unit) × Unit) × (List (List Ad) × List Pf × List Ls × (Int × Unit) × (Int × Unit) × List Pf × List Ls × List Pf × List Ls × List (List Ad) × List (List Ad) × Unit))
abbrev state_Own_L3_B := Option ((Unit × Unit × Unit) × (List (List Ad) × List Pf × List Ls × (Int × Unit) × (Int × Unit) × List Pf × List Ls × List Pf × List Ls × List (List Ad) × List (List Ad) × Unit))
def zq1662 (rec : state_Own_L3_A → state_Own_L3_B) (x : state_Own_L3_A) : state_Own_L3_B :=
 let v0 := x.1.2.2.2.1.1
 let v1 := x.1.2.2.2.2.1.1
 let v2 := x.2.1
 let v3 := x.2.2.1
 let v4 := x.2.2.2.1
 let v5 := x.2.2.2.2.1.1
 let v6 := x.2.2.2.2.2.1.1
 let zz := x.2.2.2.2.2.2
 let v7 := zz.1
 let v8 := zz.2.1
 let v9 := zz.2.2.1
 let v10 := zz.2.2.2.1
 let v11 := zz.2.2.2.2.1
 let v12 := zz.2.2.2.2.2.1
 br (decide (v1 < v0))
 (req (zq751 v1 (lenL v3)) <|
 (geti v3 v1).bind fun p1 =>
 both
 (both
 ((zq1589 (getL v2 v1)).bind fun y2 =>
 req (room (lenL v9) (lenL ([p1] : List Pf))) <|
 req (i64ok (v1 + 1)) <|
 rec (((),(),(),(v0,()),(v1 + 1,()),()),(v2,v3,v4,(v5,()),(v6,()),v7,v8,v9 ++ ([p1] : List Pf),v10,v11,padL v9.length v12 ++ ([y2.1] : List (List Ad)),())))
 ((zq1589 (getL v2 v1)).bind fun y2 =>
 dup 1 <|
 req (room (lenL v9) (lenL ([p1] : List Pf))) <|
 req (i64ok (v1 + 1)) <|
 rec (((),(),(),(v0,()),(v1 + 1,()),()),(v2,v3,v4,(v5,()),(v6,()),v7,v8,v9 ++ ([p1] : List Pf),v10,v11,padL v9.length v12 ++ ([y2.1] : List (List Ad)),()))))
 ((zq1589 (getL v2 v1)).bind fun y2 =>
 both
 (dup 1 <|
 req (room (lenL v9) (lenL ([p1] : List Pf))) <|
 req (i64ok (v1 + 1)) <|
 rec (((),(),(),(v0,()),(v1 + 1,()),()),(v2,v3,v4,(v5,()),(v6,()),v7,v8,v9 ++ ([p1] : List Pf),v10,v11,padL v9.length v12 ++ ([y2.1] : List (List Ad)),())))
 (req (room (lenL v9) (lenL ([p1] : List Pf))) <|
 req (i64ok (v1 + 1)) <|
 rec (((),(),(),(v0,()),(v1 + 1,()),()),(v2,v3,v4,(v5,()),(v6,()),v7,v8,v9 ++ ([p1] : List Pf),v10,v11,padL v9.length v12 ++ ([y2.1] : List (List Ad)),())))))
 (some (((),(),()),(v2,v3,v4,(v5,()),(v6,()),v7,v8,v9,v10,v11,v12,())))
def zq1670 (a0 : List Pf × List (List Ad)) (a1 : List Ls) (a2 : Int) : Option (((List Pf × List (List Ad)) × (List Ls) × Int × Unit) × Unit) :=
 dup 1 <|
 (zq1599 a1).bind fun y1 =>
 (loopN zq1662 FUEL (((()),(()),(()),(lenL a0.1,()),(0,()),()),(a0.2,a0.1,a1,(0,()),(a2,()),([] : List Pf),([] : List Ls),([] : List Pf),y1.1,([] : List (List Ad)),([] : List (List Ad)),()))).bind fun y2 =>
 some (((y2.2.2.2.2.2.2.2.2.1,y2.2.2.2.2.2.2.2.2.2.2.2.1),y2.2.2.2.2.2.2.2.2.2.1,y2.2.2.2.2.2.1.1,()),())
def zq1326 (a0 : Pf) (a1 : Ad) : Option (Bool × Unit) :=
 (br (beqB a0.ad.v6 a1.v6)
 ((zq1320 a1 a0.bits).bind fun y1 =>
 some (eqAd y1.1 a0.ad))
 (some false)).bind fun c1 =>
 some (c1,())
def zq1350 (a0 : Pf) (a1 : Pf) : Option (Bool × Unit) :=
 (br (decide (a0.bits ≤ a1.bits))
 ((zq1326 a0 a1.ad).bind fun y1 =>
 some y1.1)
 (some false)).bind fun c1 =>
 some (c1,())
def zq1338 (a0 : Pf) (a1 : Pf) : Option (Bool × Unit) :=
 (zq1350 a0 a1).bind fun y1 =>
 (br y1.1
 (some true)
 ((zq1350 a1 a0).bind fun y2 =>
 some y2.1)).bind fun c2 =>
 some (c2,())
def zq214 (a0 : Pf) (a1 : List Ad) (a2 : Pf) : Option (Bool × Unit) :=
 (zq1338 a0 a2).bind fun y1 =>
 some (y1.1,())
def zq256 (a0 : Int) (a1 : Int) : Option (Int × Unit) :=
 br (decide (a0 < a1))
 (some ((-1),()))
 (br (decide (a0 > a1))
 (some (1,()))
 (some (0,())))
def zq262 (a0 : Ad) (a1 : Ad) : Option (Int × Unit) :=
 (br (!(beqB a0.v6 a1.v6))
 (some a1.v6)
 (some false)).bind fun c1 =>
 br c1
 (some ((-1),()))
 (br (!(beqB a0.v6 a1.v6))
 (some (1,()))
 (br (!decide (a0.hi = a1.hi))
 ((zq256 a0.hi a1.hi).bind fun y2 =>
 some (y2.1,()))
 ((zq256 a0.lo a1.lo).bind fun y2 =>
 some (y2.1,()))))
def zq1344 (a0 : Pf) (a1 : Pf) : Option (Int × Unit) :=
 (zq262 a0.ad a1.ad).bind fun y1 =>
 br (!decide (y1.1 = 0))
 (some (y1.1,()))
 (req (i64ok (a0.bits - a1.bits)) <|
 some (a0.bits - a1.bits,()))
def zq219 (a0 : Pf) (a1 : List Ad) (a2 : Pf) : Option (Int × Unit) :=
 (zq1344 a0 a2).bind fun y1 =>
 some (y1.1,())
def zq1728 (a0 : Pf) (a1 : List Ad) (a2 : Ad) : Option (Bool × Unit) :=
 (zq1326 a0 a2).bind fun y1 =>
 some (y1.1,())
abbrev state_poolOf_slices_IndexFunc___api_Pool_api_Pool__L2_A := ((Unit × Unit × (Int × Unit) × (Int × Unit) × Unit) × (List (List Ad) × List Pf × List Ls × (Int × Unit) × (Ad × Unit) × Unit))
abbrev state_poolOf_slices_IndexFunc___api_Pool_api_Pool__L2_B := Option ((((Int × Unit) × Unit) × (List (List Ad) × List Pf × List Ls × (Int × Unit) × (Ad × Unit) × Unit)) ⊕ (Unit × (List (List Ad) × List Pf × List Ls × (Int × Unit) × (Ad × Unit) × Unit)))
def zq1734 (rec : state_poolOf_slices_IndexFunc___api_Pool_api_Pool__L2_A → state_poolOf_slices_IndexFunc___api_Pool_api_Pool__L2_B) (x : state_poolOf_slices_IndexFunc___api_Pool_api_Pool__L2_A) : state_poolOf_slices_IndexFunc___api_Pool_api_Pool__L2_B :=
 let v0 := x.1.2.2.1.1
 let v1 := x.1.2.2.2.1.1
 let v2 := x.2.1
 let v3 := x.2.2.1
 let v4 := x.2.2.2.1
 let v5 := x.2.2.2.2.1.1
 let v6 := x.2.2.2.2.2.1.1
 br (decide (v1 < v0))
 (req (zq751 v1 (lenL v3)) <|
 (geti v3 v1).bind fun p1 =>
 (zq1728 p1 (getL v2 v1) v6).bind fun y2 =>
 br y2.1
 (some (Sum.inl (((v1,()),()),(v2,v3,v4,(v5,()),(v6,()),()))))
 (req (i64ok (v1 + 1)) <|
 rec (((),(),(v0,()),(v1 + 1,()),()),(v2,v3,v4,(v5,()),(v6,()),()))))
 (some (Sum.inr (((),(v2,v3,v4,(v5,()),(v6,()),())))))
def zq1740 (a0 : List Pf × List (List Ad)) (a1 : List Ls) (a2 : Int) (a3 : Ad) : Option (Int × Unit) :=
 (loopN zq1734 FUEL (((()),(()),(lenL a0.1,()),(0,()),()),(a0.2,a0.1,a1,(a2,()),(a3,()),()))).bind fun y1 =>
 sumC y1 (fun y2 =>
 some (y2.1.1.1,())) (fun y3 =>
 some ((-1),()))
def zq198 (a0 : Ls) (a1 : ByteArray) : Option (Bool × Unit) :=
 some (zq1758 .eql a0.who a1,())
abbrev m_state_doer__find_slices_IndexFunc___api_Lease_api_Lease__L2_A := ((Unit × Unit × (Int × Unit) × (Int × Unit) × Unit) × ((Int × Unit) × List (List Ad) × List Pf × List Ls × (ByteArray × Unit) × Unit))
abbrev m_state_doer__find_slices_IndexFunc___api_Lease_api_Lease__L2_B := Option ((((Int × Unit) × Unit) × ((Int × Unit) × List (List Ad) × List Pf × List Ls × (ByteArray × Unit) × Unit)) ⊕ (Unit × ((Int × Unit) × List (List Ad) × List Pf × List Ls × (ByteArray × Unit) × Unit)))
def zq203 (rec : m_state_doer__find_slices_IndexFunc___api_Lease_api_Lease__L2_A → m_state_doer__find_slices_IndexFunc___api_Lease_api_Lease__L2_B) (x : m_state_doer__find_slices_IndexFunc___api_Lease_api_Lease__L2_A) : m_state_doer__find_slices_IndexFunc___api_Lease_api_Lease__L2_B :=
 let v0 := x.1.2.2.1.1
 let v1 := x.1.2.2.2.1.1
 let v2 := x.2.1.1
 let v3 := x.2.2.1
 let v4 := x.2.2.2.1
 let v5 := x.2.2.2.2.1
 let v6 := x.2.2.2.2.2.1.1
 br (decide (v1 < v0))
 (req (zq751 v1 (lenL v5)) <|
 (geti v5 v1).bind fun p1 =>
 (zq198 p1 v6).bind fun y2 =>
 br y2.1
 (some (Sum.inl (((v1,()),()),((v2,()),v3,v4,v5,(v6,()),()))))
 (req (i64ok (v1 + 1)) <|
 rec (((),(),(v0,()),(v1 + 1,()),()),((v2,()),v3,v4,v5,(v6,()),()))))
 (some (Sum.inr (((),((v2,()),v3,v4,v5,(v6,()),())))))
def zq209 (a0 : List Pf × List (List Ad)) (a1 : List Ls) (a2 : Int) (a3 : ByteArray) : Option (Int × Unit) :=
 (loopN zq203 FUEL (((()),(()),(lenL a1,()),(0,()),()),((a2,()),a0.2,a0.1,a1,(a3,()),()))).bind fun y1 =>
 sumC y1 (fun y2 =>
 some (y2.1.1.1,())) (fun y3 =>
 some ((-1),()))
def zq920 (a0 : Ls) (a1 : Int) : Option (Bool × Unit) :=
 some (decide (a0.upto < a1),())
abbrev lease_Live_slices_DeleteFunc___api_Lease_api_Lease__slices_IndexFunc___api_Lease_api_Lease__L2_A := ((Unit × Unit × (Int × Unit) × (Int × Unit) × Unit) × (List Ls × (Int × Unit) × List Ls × List Ls × List Ls × Unit))
abbrev lease_Live_slices_DeleteFunc___api_Lease_api_Lease__slices_IndexFunc___api_Lease_api_Lease__L2_B := Option ((((Int × Unit) × Unit) × (List Ls × (Int × Unit) × List Ls × List Ls × List Ls × Unit)) ⊕ (Unit × (List Ls × (Int × Unit) × List Ls × List Ls × List Ls × Unit)))
def zq932 (rec : lease_Live_slices_DeleteFunc___api_Lease_api_Lease__slices_IndexFunc___api_Lease_api_Lease__L2_A → lease_Live_slices_DeleteFunc___api_Lease_api_Lease__slices_IndexFunc___api_Lease_api_Lease__L2_B) (x : lease_Live_slices_DeleteFunc___api_Lease_api_Lease__slices_IndexFunc___api_Lease_api_Lease__L2_A) : lease_Live_slices_DeleteFunc___api_Lease_api_Lease__slices_IndexFunc___api_Lease_api_Lease__L2_B :=
 let v0 := x.1.2.2.1.1
 let v1 := x.1.2.2.2.1.1
 let v2 := x.2.1
 let v3 := x.2.2.1.1
 let v4 := x.2.2.2.1
 let v5 := x.2.2.2.2.1
 let v6 := x.2.2.2.2.2.1
 br (decide (v1 < v0))
 (req (zq751 v1 (lenL v5)) <|
 (geti v5 v1).bind fun p1 =>
 (zq920 p1 v3).bind fun y2 =>
 br y2.1
 (some (Sum.inl (((v1,()),()),(v2,(v3,()),v4,v5,v6,()))))
 (req (i64ok (v1 + 1)) <|
 rec (((),(),(v0,()),(v1 + 1,()),()),(v2,(v3,()),v4,v5,v6,()))))
 (some (Sum.inr (((),(v2,(v3,()),v4,v5,v6,())))))
abbrev lease_Live_slices_DeleteFunc___api_Lease_api_Lease__L5_A := ((Unit × Unit × (Int × Unit) × (Int × Unit) × Unit) × (List Ls × (Int × Unit) × List Ls × List Ls × Unit))
abbrev lease_Live_slices_DeleteFunc___api_Lease_api_Lease__L5_B := Option ((Unit × (Int × Unit) × Unit) × (List Ls × (Int × Unit) × List Ls × List Ls × Unit))
def zq926 (rec : lease_Live_slices_DeleteFunc___api_Lease_api_Lease__L5_A → lease_Live_slices_DeleteFunc___api_Lease_api_Lease__L5_B) (x : lease_Live_slices_DeleteFunc___api_Lease_api_Lease__L5_A) : lease_Live_slices_DeleteFunc___api_Lease_api_Lease__L5_B :=
 let v0 := x.1.2.2.1.1
 let v1 := x.1.2.2.2.1.1
 let v2 := x.2.1
 let v3 := x.2.2.1.1
 let v4 := x.2.2.2.1
 let v5 := x.2.2.2.2.1
 br (decide (v1 < lenL v5))
 (req (zq751 v1 (lenL v5)) <|
 (geti v5 v1).bind fun p1 =>
 (zq920 p1 v3).bind fun y2 =>
 br (!y2.1)
 (req (zq751 v0 (lenL v5)) <|
 (geti v5 v0).bind fun p3 =>
 req (i64ok (v0 + 1)) <|
 req (i64ok (v1 + 1)) <|
 rec (((),(),(v0 + 1,()),(v1 + 1,()),()),(v2,(v3,()),v4,seti v5 v0 p1,())))
 (req (i64ok (v1 + 1)) <|
 rec (((),(),(v0,()),(v1 + 1,()),()),(v2,(v3,()),v4,v5,()))))
 (some (((),(v0,()),()),(v2,(v3,()),v4,v5,())))
def zq938 (a0 : List Ls) (a1 : Int) : Option ((List Ls) × Unit) :=
 (zq1599 a0).bind fun y1 =>
 (loopN zq932 FUEL (((()),(()),(lenL y1.1,()),(0,()),()),(a0,(a1,()),([] : List Ls),y1.1,([] : List Ls),()))).bind fun y2 =>
 sumC y2 (fun y3 =>
 br (decide (y3.1.1.1 = (-1)))
 (some (y3.2.2.2.2.1,()))
 (req (i64ok (y3.1.1.1 + 1)) <|
 (loopN zq926 FUEL (((()),(()),(y3.1.1.1,()),(y3.1.1.1 + 1,()),()),(y3.2.1,(y3.2.2.1.1,()),y3.2.2.2.1,y3.2.2.2.2.1,()))).bind fun y4 =>
 req ((decide (0 ≤ y4.1.2.1.1)) && (decide (y4.1.2.1.1 ≤ lenL y4.2.2.2.2.1))) <|
 req ((decide (0 ≤ y4.1.2.1.1)) && (decide (y4.1.2.1.1 ≤ lenL (clrL y4.2.2.2.2.1 y4.1.2.1.1 (⟨(⟨false,0,0⟩ : Ad),(ByteArray.empty),0⟩ : Ls))))) <|
 some (subL (clrL y4.2.2.2.2.1 y4.1.2.1.1 (⟨(⟨false,0,0⟩ : Ad),(ByteArray.empty),0⟩ : Ls)) 0 y4.1.2.1.1,()))) (fun y5 =>
 some (y5.2.2.2.2.1,()))
def zq949 (a0 : Ls) (a1 : ByteArray) : Option (Bool × Unit) :=
 some (zq1758 .eql a0.who a1,())
def zq1332 (a0 : Pf) : Option (Ad × Unit) :=
 (zq1362 a0.ad a0.bits).bind fun y1 =>
 some ((⟨a0.ad.v6,aop .or .u64 a0.ad.hi y1.1.hi,aop .or .u64 a0.ad.lo y1.1.lo⟩ : Ad),())
def zq245 (a0 : Ad) : Option (Ad × Bool × Unit) :=
 (br a0.v6
 (some (decide (aop .add .u64 a0.lo 1 = 0)))
 (some false)).bind fun c1 =>
 br c1
 (some ((⟨a0.v6,aop .add .u64 a0.hi 1,aop .add .u64 a0.lo 1⟩ : Ad),!decide (aop .add .u64 a0.hi 1 = 0),()))
 (br a0.v6
 (both
 (dup 1 <|
 some ((⟨a0.v6,a0.hi,aop .add .u64 a0.lo 1⟩ : Ad),true,()))
 (some ((⟨a0.v6,a0.hi,aop .add .u64 a0.lo 1⟩ : Ad),true,())))
 (some ((⟨a0.v6,a0.hi,aop .add .u64 a0.lo 1⟩ : Ad),decide (aop .add .u64 a0.lo 1 < 4294967296),())))
abbrev slices_Index___api_Addr_api_Addr__L2_A := ((Unit × Unit × (Int × Unit) × (Int × Unit) × Unit) × (List Ad × (Ad × Unit) × Unit))
abbrev slices_Index___api_Addr_api_Addr__L2_B := Option ((((Int × Unit) × Unit) × (List Ad × Unit)) ⊕ (Unit × (List Ad × Unit)))
def zq1610 (rec : slices_Index___api_Addr_api_Addr__L2_A → slices_Index___api_Addr_api_Addr__L2_B) (x : slices_Index___api_Addr_api_Addr__L2_A) : slices_Index___api_Addr_api_Addr__L2_B :=
 let v0 := x.1.2.2.1.1
 let v1 := x.1.2.2.2.1.1
 let v2 := x.2.1
 let v3 := x.2.2.1.1
 br (decide (v1 < v0))
 (req (zq751 v1 (lenL v2)) <|
 (geti v2 v1).bind fun p1 =>
 br (eqAd v3 p1)
 (some (Sum.inl (((v1,()),()),(v2,()))))
 (req (i64ok (v1 + 1)) <|
 rec (((),(),(v0,()),(v1 + 1,()),()),(v2,(v3,()),()))))
 (some (Sum.inr (((),(v2,())))))
def zq1617 (a0 : List Ad) (a1 : Ad) : Option (Int × Unit) :=
 (loopN zq1610 FUEL (((()),(()),(lenL a0,()),(0,()),()),(a0,(a1,()),()))).bind fun y1 =>
 sumC y1 (fun y2 =>
 some (y2.1.1.1,())) (fun y3 =>
 some ((-1),()))
def zq1604 (a0 : List Ad) (a1 : Ad) : Option (Bool × Unit) :=
 (zq1617 a0 a1).bind fun y1 =>
 some (decide (y1.1 ≥ 0),())
def zq179 (a0 : Ls) (a1 : Ad) : Option (Bool × Unit) :=
 some (eqAd a0.ad a1,())
abbrev m_lease_book__taken_slices_ContainsFunc___api_Lease_api_Lease__slices_IndexFunc___api_Lease_api_Lease__L2_A := ((Unit × Unit × (Int × Unit) × (Int × Unit) × Unit) × ((Bool × Int × Int × Int × Unit) × List Ad × List Ls × (Ad × Unit) × Unit))
abbrev m_lease_book__taken_slices_ContainsFunc___api_Lease_api_Lease__slices_IndexFunc___api_Lease_api_Lease__L2_B := Option ((((Int × Unit) × Unit) × ((Bool × Int × Int × Int × Unit) × List Ad × List Ls × (Ad × Unit) × Unit)) ⊕ (Unit × ((Bool × Int × Int × Int × Unit) × List Ad × List Ls × (Ad × Unit) × Unit)))
def zq187 (rec : m_lease_book__taken_slices_ContainsFunc___api_Lease_api_Lease__slices_IndexFunc___api_Lease_api_Lease__L2_A → m_lease_book__taken_slices_ContainsFunc___api_Lease_api_Lease__slices_IndexFunc___api_Lease_api_Lease__L2_B) (x : m_lease_book__taken_slices_ContainsFunc___api_Lease_api_Lease__slices_IndexFunc___api_Lease_api_Lease__L2_A) : m_lease_book__taken_slices_ContainsFunc___api_Lease_api_Lease__slices_IndexFunc___api_Lease_api_Lease__L2_B :=
 let v0 := x.1.2.2.1.1
 let v1 := x.1.2.2.2.1.1
 let v2 := x.2.1.1
 let v3 := x.2.1.2.1
 let v4 := x.2.1.2.2.1
 let v5 := x.2.1.2.2.2.1
 let v6 := x.2.2.1
 let v7 := x.2.2.2.1
 let v8 := x.2.2.2.2.1.1
 br (decide (v1 < v0))
 (req (zq751 v1 (lenL v7)) <|
 (geti v7 v1).bind fun p1 =>
 (zq179 p1 v8).bind fun y2 =>
 br y2.1
 (some (Sum.inl (((v1,()),()),((v2,v3,v4,v5,()),v6,v7,(v8,()),()))))
 (req (i64ok (v1 + 1)) <|
 rec (((),(),(v0,()),(v1 + 1,()),()),((v2,v3,v4,v5,()),v6,v7,(v8,()),()))))
 (some (Sum.inr (((),((v2,v3,v4,v5,()),v6,v7,(v8,()),())))))
def zq193 (a0 : Pf) (a1 : List Ad) (a2 : List Ls) (a3 : Ad) : Option (Bool × Unit) :=
 (zq1604 a1 a3).bind fun y1 =>
 (br y1.1
 (some true)
 (((loopN zq187 FUEL (((()),(()),(lenL a2,()),(0,()),()),((a0.ad.v6,a0.ad.hi,a0.ad.lo,a0.bits,()),a1,a2,(a3,()),()))).bind fun y2 =>
 sumC y2 (fun y3 =>
 some (decide (y3.1.1.1 ≥ 0),())) (fun y4 =>
 some (false,()))).bind fun y5 =>
 some y5.1)).bind fun c2 =>
 some (c2,())
def zq954 (a0 : Ls) (a1 : Ls) : Option (Int × Unit) :=
 (zq262 a0.ad a1.ad).bind fun y1 =>
 some (y1.1,())
def zq867 : Option ((List En) × Unit) :=
 zq897.bind fun y1 =>
 req (zq751 0 (lenL y1.1)) <|
 (geti y1.1 0).bind fun p2 =>
 zq897.bind fun y3 =>
 req (zq751 1 (lenL y3.1)) <|
 (geti y3.1 1).bind fun p4 =>
 zq897.bind fun y5 =>
 req (zq751 2 (lenL y5.1)) <|
 (geti y5.1 2).bind fun p6 =>
 some (([(⟨1,1,p2⟩ : En),(⟨2,1,p4⟩ : En),(⟨3,4,p6⟩ : En)] : List En),())
def zq904 : Option ((Int × Int × Int × (List En) × Unit) × Unit) :=
 zq867.bind fun y1 =>
 some ((4,1,12,y1.1,()),())
def zq596 (a0 : Int) (a1 : Int) (a2 : Int) (a3 : List En) (a4 : Int) (a5 : Int) : Option ((Int × Int × Int × (List En) × Unit) × Int × Int × Unit) :=
 (zq617 a0 a1 a2 a3).bind fun y1 =>
 (br (decide (y1.1 = 0))
 ((zq651 a4 1 2).bind fun y2 =>
 br (!y2.1)
 (some true)
 ((zq651 a5 0 9999).bind fun y3 =>
 some (!y3.1)))
 (some false)).bind fun c2 =>
 br c2
 (some ((0,0,0,([] : List En),()),0,3,()))
 (br (!decide (y1.1 = 0))
 (some ((0,0,0,([] : List En),()),0,y1.1,()))
 ((zq626 a0 a1 a2 a3 a4 a5).bind fun y3 =>
 some ((y3.1.1,y3.1.2.1,y3.1.2.2.1,y3.1.2.2.2.1,()),y3.1.1,y3.2.1,())))
def zq644 (a0 : Int) (a1 : Int) (a2 : Int) (a3 : List En) (a4 : Int) (a5 : Oq) : Option ((Int × Int × Int × (List En) × Unit) × Int × Unit) :=
 (zq617 a0 a1 a2 a3).bind fun y1 =>
 br (!decide (y1.1 = 0))
 (some ((0,0,0,([] : List En),()),y1.1,()))
 ((zq638 a0 a1 a2 a3 a4 a5).bind fun y2 =>
 some ((y2.1.1,y2.1.2.1,y2.1.2.2.1,y2.1.2.2.2.1,()),y2.2.1,()))
def zq877 : Option (Bool × Unit) :=
 zq904.bind fun y1 =>
 (zq596 y1.1.1 y1.1.2.1 y1.1.2.2.1 y1.1.2.2.2.1 2 13).bind fun y2 =>
 zq904.bind fun y3 =>
 (zq596 y3.1.1 y3.1.2.1 y3.1.2.2.1 y3.1.2.2.2.1 2 12).bind fun y4 =>
 zq904.bind fun y5 =>
 (zq596 y5.1.1 y5.1.2.1 y5.1.2.2.1 y5.1.2.2.2.1 1 12).bind fun y6 =>
 both
 (zq897.bind fun y7 =>
 req (zq751 2 (lenL y7.1)) <|
 (geti y7.1 2).bind fun p8 =>
 dup 1 <|
 (zq644 y2.1.1 y2.1.2.1 y2.1.2.2.1 y2.1.2.2.2.1 4 p8).bind fun y9 =>
 both
 (zq897.bind fun y10 =>
 req (zq751 2 (lenL y10.1)) <|
 (geti y10.1 2).bind fun p11 =>
 dup 1 <|
 (zq644 y2.1.1 y2.1.2.1 y2.1.2.2.1 y2.1.2.2.2.1 5 p11).bind fun y12 =>
 zq904.bind fun y13 =>
 (zq617 y13.1.1 y13.1.2.1 y13.1.2.2.1 y13.1.2.2.2.1).bind fun y14 =>
 (br (decide (y14.1 = 0))
 (some (decide (y2.2.2.1 = 0)))
 (some false)).bind fun c15 =>
 (br c15
 (some (decide (y4.2.2.1 = 4)))
 (some false)).bind fun c16 =>
 (br c16
 (some (decide (y6.2.2.1 = 0)))
 (some false)).bind fun c17 =>
 (br c17
 (some (decide (y9.2.1 = 4)))
 (some false)).bind fun c18 =>
 (br c18
 (some (decide (y12.2.1 = 0)))
 (some false)).bind fun c19 =>
 (br c19
 (some (decide (y2.2.1 = 5)))
 (some false)).bind fun c20 =>
 (br c20
 (some (decide (y6.2.1 = 4)))
 (some false)).bind fun c21 =>
 (br c21
 (some (decide (y2.1.2.1 = 2)))
 (some false)).bind fun c22 =>
 (br c22
 (some (decide (y6.1.2.2.1 = 22)))
 (some false)).bind fun c23 =>
 (br c23
 (some (decide (lenL y12.1.2.2.2.1 = 4)))
 (some false)).bind fun c24 =>
 some (c24,()))
 (zq897.bind fun y10 =>
 req (zq751 2 (lenL y10.1)) <|
 (geti y10.1 2).bind fun p11 =>
 (zq644 y2.1.1 y2.1.2.1 y2.1.2.2.1 y2.1.2.2.2.1 5 p11).bind fun y12 =>
 zq904.bind fun y13 =>
 (zq617 y13.1.1 y13.1.2.1 y13.1.2.2.1 y13.1.2.2.2.1).bind fun y14 =>
 (br (decide (y14.1 = 0))
 (some (decide (y2.2.2.1 = 0)))
 (some false)).bind fun c15 =>
 (br c15
 (some (decide (y4.2.2.1 = 4)))
 (some false)).bind fun c16 =>
 (br c16
 (some (decide (y6.2.2.1 = 0)))
 (some false)).bind fun c17 =>
 (br c17
 (some (decide (y9.2.1 = 4)))
 (some false)).bind fun c18 =>
 (br c18
 (some (decide (y12.2.1 = 0)))
 (some false)).bind fun c19 =>
 (br c19
 (some (decide (y2.2.1 = 5)))
 (some false)).bind fun c20 =>
 (br c20
 (some (decide (y6.2.1 = 4)))
 (some false)).bind fun c21 =>
 (br c21
 (some (decide (y2.1.2.1 = 2)))
 (some false)).bind fun c22 =>
 (br c22
 (some (decide (y6.1.2.2.1 = 22)))
 (some false)).bind fun c23 =>
 (br c23
 (some (decide (lenL y12.1.2.2.2.1 = 4)))
 (some false)).bind fun c24 =>
 some (c24,())))
 (zq897.bind fun y7 =>
 req (zq751 2 (lenL y7.1)) <|
 (geti y7.1 2).bind fun p8 =>
 (zq644 y2.1.1 y2.1.2.1 y2.1.2.2.1 y2.1.2.2.2.1 4 p8).bind fun y9 =>
 both
 (zq897.bind fun y10 =>
 req (zq751 2 (lenL y10.1)) <|
 (geti y10.1 2).bind fun p11 =>
 dup 1 <|
 (zq644 y2.1.1 y2.1.2.1 y2.1.2.2.1 y2.1.2.2.2.1 5 p11).bind fun y12 =>
 zq904.bind fun y13 =>
 (zq617 y13.1.1 y13.1.2.1 y13.1.2.2.1 y13.1.2.2.2.1).bind fun y14 =>
 (br (decide (y14.1 = 0))
 (some (decide (y2.2.2.1 = 0)))
 (some false)).bind fun c15 =>
 (br c15
 (some (decide (y4.2.2.1 = 4)))
 (some false)).bind fun c16 =>
 (br c16
 (some (decide (y6.2.2.1 = 0)))
 (some false)).bind fun c17 =>
 (br c17
 (some (decide (y9.2.1 = 4)))
 (some false)).bind fun c18 =>
 (br c18
 (some (decide (y12.2.1 = 0)))
 (some false)).bind fun c19 =>
 (br c19
 (some (decide (y2.2.1 = 5)))
 (some false)).bind fun c20 =>
 (br c20
 (some (decide (y6.2.1 = 4)))
 (some false)).bind fun c21 =>
 (br c21
 (some (decide (y2.1.2.1 = 2)))
 (some false)).bind fun c22 =>
 (br c22
 (some (decide (y6.1.2.2.1 = 22)))
 (some false)).bind fun c23 =>
 (br c23
 (some (decide (lenL y12.1.2.2.2.1 = 4)))
 (some false)).bind fun c24 =>
 some (c24,()))
 (zq897.bind fun y10 =>
 req (zq751 2 (lenL y10.1)) <|
 (geti y10.1 2).bind fun p11 =>
 (zq644 y2.1.1 y2.1.2.1 y2.1.2.2.1 y2.1.2.2.2.1 5 p11).bind fun y12 =>
 zq904.bind fun y13 =>
 (zq617 y13.1.1 y13.1.2.1 y13.1.2.2.1 y13.1.2.2.2.1).bind fun y14 =>
 (br (decide (y14.1 = 0))
 (some (decide (y2.2.2.1 = 0)))
 (some false)).bind fun c15 =>
 (br c15
 (some (decide (y4.2.2.1 = 4)))
 (some false)).bind fun c16 =>
 (br c16
 (some (decide (y6.2.2.1 = 0)))
 (some false)).bind fun c17 =>
 (br c17
 (some (decide (y9.2.1 = 4)))
 (some false)).bind fun c18 =>
 (br c18
 (some (decide (y12.2.1 = 0)))
 (some false)).bind fun c19 =>
 (br c19
 (some (decide (y2.2.1 = 5)))
 (some false)).bind fun c20 =>
 (br c20
 (some (decide (y6.2.1 = 4)))
 (some false)).bind fun c21 =>
 (br c21
 (some (decide (y2.1.2.1 = 2)))
 (some false)).bind fun c22 =>
 (br c22
 (some (decide (y6.1.2.2.1 = 22)))
 (some false)).bind fun c23 =>
 (br c23
 (some (decide (lenL y12.1.2.2.2.1 = 4)))
 (some false)).bind fun c24 =>
 some (c24,())))
def zq1036 (a0 : List En) (a1 : List En) : Option (Bool × Int × Unit) :=
 (zq1045 a0).bind fun y1 =>
 br (!decide (y1.1 = 0))
 (some (false,y1.1,()))
 ((zq1045 a1).bind fun y2 =>
 br (!decide (y2.1 = 0))
 (some (false,y2.1,()))
 ((zq1062 a0 a1).bind fun y3 =>
 some (y3.1,0,())))
def zq1554 (a0 : List En) (a1 : List En) (a2 : Int) : Option ((List En) × Int × Unit) :=
 (zq1036 a0 a1).bind fun y1 =>
 br (!decide (y1.2.1 = 0))
 (br (!decide (y1.2.1 = 0))
 (some (([] : List En),y1.2.1,()))
 ((zq1548 a0 a1 a2).bind fun y2 =>
 some (y2.1,0,())))
 (br (!y1.1)
 (some (([] : List En),4,()))
 ((br (decide (a2 < 0))
 (some true)
 (some (decide (a2 > 30)))).bind fun c2 =>
 br c2
 (some (([] : List En),3,()))
 (br (!decide (y1.2.1 = 0))
 (some (([] : List En),y1.2.1,()))
 ((zq1548 a0 a1 a2).bind fun y3 =>
 some (y3.1,0,())))))
abbrev R_SameLog_L4_A := ((Unit × Unit × (Int × Unit) × Unit) × (List En × List En × Unit))
abbrev R_SameLog_L4_B := Option ((((Bool × Unit) × Unit) × (List En × List En × Unit)) ⊕ (Unit × (List En × List En × Unit)))
def zq139 (rec : R_SameLog_L4_A → R_SameLog_L4_B) (x : R_SameLog_L4_A) : R_SameLog_L4_B :=
 let v0 := x.1.2.2.1.1
 let v1 := x.2.1
 let v2 := x.2.2.1
 br (decide (v0 < lenL v1))
 (req (zq751 v0 (lenL v1)) <|
 (geti v1 v0).bind fun p1 =>
 req (zq751 v0 (lenL v2)) <|
 (geti v2 v0).bind fun p2 =>
 br (!(eqEn p1 p2))
 (some (Sum.inl (((false,()),()),(v1,v2,()))))
 (req (i64ok (v0 + 1)) <|
 rec (((),(),(v0 + 1,()),()),(v1,v2,()))))
 (some (Sum.inr (((),(v1,v2,())))))
def zq147 (a0 : List En) (a1 : List En) : Option (Bool × Unit) :=
 br (!decide (lenL a0 = lenL a1))
 (some (false,()))
 ((loopN zq139 FUEL (((()),(()),(0,()),()),(a0,a1,()))).bind fun y1 =>
 sumC y1 (fun y2 =>
 some (y2.1.1.1,())) (fun y3 =>
 some (true,())))
def zq1015 (a0 : List En) (a1 : Int) (a2 : Oq) : Option ((List En) × Int × Unit) :=
 (zq1045 a0).bind fun y1 =>
 br (!decide (y1.1 = 0))
 (some (([] : List En),y1.1,()))
 ((zq1068 a0 a1 a2).bind fun y2 =>
 some (y2.1,y2.2.1,()))
def zq159 (a0 : Int) (a1 : Int) (a2 : Int) : Option (Bool × Unit) :=
 (br (decide (a0 ≥ a1))
 (some (decide (a0 ≤ a2)))
 (some false)).bind fun c1 =>
 some (c1,())
def zq46 (a0 : Ad) : Option (Int × Unit) :=
 (br (!a0.v6)
 (br (decide (a0.hi > 0))
 (some true)
 (some (decide (a0.lo > 4294967295))))
 (some false)).bind fun c1 =>
 br c1
 (some (3,()))
 (some (0,()))
def zq165 (a0 : Ad) : Option (Int × Unit) :=
 br a0.v6
 (some (128,()))
 (some (32,()))
abbrev R_Bits_L3_A := ((Unit × Unit × (Int × Unit) × Unit) × ((Ad × Unit) × List Int × Unit))
abbrev R_Bits_L3_B := Option ((Unit × Unit × Unit) × ((Ad × Unit) × List Int × Unit))
def zq29 (rec : R_Bits_L3_A → R_Bits_L3_B) (x : R_Bits_L3_A) : R_Bits_L3_B :=
 let v0 := x.1.2.2.1.1
 let v1 := x.2.1.1
 let v2 := x.2.2.1
 br (decide (v0 ≥ 0))
 (req (decide (0 ≤ v0)) <|
 req (room (lenL v2) (lenL ([convI .u8 (aop .add .u64 48 (aop .rem .u64 (aop .shr .u64 v1.hi v0) 2))] : List Int))) <|
 req (i64ok (v0 - 1)) <|
 rec (((),(),(v0 - 1,()),()),((v1,()),v2 ++ ([convI .u8 (aop .add .u64 48 (aop .rem .u64 (aop .shr .u64 v1.hi v0) 2))] : List Int),())))
 (some (((),(),()),((v1,()),v2,())))
abbrev R_Bits_L7_A := ((Unit × Unit × (Int × Unit) × Unit) × ((Ad × Unit) × List Int × Unit))
abbrev R_Bits_L7_B := Option ((Unit × Unit × Unit) × ((Ad × Unit) × List Int × Unit))
def zq32 (rec : R_Bits_L7_A → R_Bits_L7_B) (x : R_Bits_L7_A) : R_Bits_L7_B :=
 let v0 := x.1.2.2.1.1
 let v1 := x.2.1.1
 let v2 := x.2.2.1
 br (decide (v0 ≥ 0))
 (req (decide (0 ≤ v0)) <|
 req (room (lenL v2) (lenL ([convI .u8 (aop .add .u64 48 (aop .rem .u64 (aop .shr .u64 v1.lo v0) 2))] : List Int))) <|
 req (i64ok (v0 - 1)) <|
 rec (((),(),(v0 - 1,()),()),((v1,()),v2 ++ ([convI .u8 (aop .add .u64 48 (aop .rem .u64 (aop .shr .u64 v1.lo v0) 2))] : List Int),())))
 (some (((),(),()),((v1,()),v2,())))
def zq40 (a0 : Ad) : Option (ByteArray × Unit) :=
 (loopN zq29 FUEL (((()),(()),(63,()),()),((a0,()),([] : List Int),()))).bind fun y1 =>
 (loopN zq32 FUEL (((()),(()),(63,()),()),((y1.2.1.1,()),y1.2.2.1,()))).bind fun y2 =>
 br (!y2.2.1.1.v6)
 (req ((decide (96 ≤ lenL y2.2.2.1)) && (decide (lenL y2.2.2.1 ≤ lenL y2.2.2.1))) <|
 some (zq365 (subL y2.2.2.1 96 (lenL y2.2.2.1)),()))
 (some (zq365 y2.2.2.1,()))
abbrev R_CheckPrefix_L8_A := (((ByteArray × Unit) × (Int × Unit) × Unit) × Unit)
abbrev R_CheckPrefix_L8_B := Option ((((Int × Unit) × Unit) × Unit) ⊕ (Unit × Unit))
def zq89 (rec : R_CheckPrefix_L8_A → R_CheckPrefix_L8_B) (x : R_CheckPrefix_L8_A) : R_CheckPrefix_L8_B :=
 let v0 := x.1.1.1
 let v1 := x.1.2.1.1
 br (decide (v1 < lenS v0))
 (req (zq751 v1 (lenS v0)) <|
 br (!decide (zq363 v0 v1 = 48))
 (some (Sum.inl (((4,()),()),())))
 (req (i64ok (v1 + 1)) <|
 rec (((v0,()),(v1 + 1,()),()),())))
 (some (Sum.inr (((),()))))
def zq97 (a0 : Pf) : Option (Int × Unit) :=
 (zq46 a0.ad).bind fun y1 =>
 br (!decide (y1.1 = 0))
 (some (y1.1,()))
 ((zq165 a0.ad).bind fun y2 =>
 (zq159 a0.bits 0 y2.1).bind fun y3 =>
 br (!y3.1)
 (some (3,()))
 ((zq40 a0.ad).bind fun y4 =>
 (loopN zq89 FUEL (((y4.1,()),(a0.bits,()),()),(()))).bind fun y5 =>
 sumC y5 (fun y6 =>
 some (y6.1.1.1,())) (fun y7 =>
 some (0,()))))
def zq115 (a0 : Pf) : Option (Bool × Unit) :=
 (zq165 a0.ad).bind fun y1 =>
 req (i64ok (y1.1 - a0.bits)) <|
 some (decide (y1.1 - a0.bits ≤ 4),())
abbrev R_IsWho_L2_A := (((ByteArray × Unit) × (Int × Unit) × Unit) × Unit)
abbrev R_IsWho_L2_B := Option ((((Bool × Unit) × Unit) × Unit) ⊕ (((ByteArray × Unit) × Unit) × Unit))
def zq116 (rec : R_IsWho_L2_A → R_IsWho_L2_B) (x : R_IsWho_L2_A) : R_IsWho_L2_B :=
 let v0 := x.1.1.1
 let v1 := x.1.2.1.1
 br (decide (v1 < lenS v0))
 (req (zq751 v1 (lenS v0)) <|
 (zq159 (convI .i64 (zq363 v0 v1)) 97 122).bind fun y1 =>
 (br (!y1.1)
 (req (zq751 v1 (lenS v0)) <|
 (zq159 (convI .i64 (zq363 v0 v1)) 48 57).bind fun y2 =>
 some (!y2.1))
 (some false)).bind fun c2 =>
 br c2
 (some (Sum.inl (((false,()),()),())))
 (req (i64ok (v1 + 1)) <|
 rec (((v0,()),(v1 + 1,()),()),())))
 (some (Sum.inr ((((v0,()),()),()))))
def zq124 (a0 : ByteArray) : Option (Bool × Unit) :=
 (loopN zq116 FUEL (((a0,()),(0,()),()),(()))).bind fun y1 =>
 sumC y1 (fun y2 =>
 some (y2.1.1.1,())) (fun y3 =>
 (zq159 (lenS y3.1.1.1) 1 8).bind fun y4 =>
 some (y4.1,()))
def zq88 (a0 : Oq) : Option (Int × Unit) :=
 (zq159 a0.kind 1 5).bind fun y1 =>
 br (!y1.1)
 (some (7,()))
 ((br (!decide (a0.kind = 1))
 (some (!(eqPf a0.pf (⟨(⟨false,0,0⟩ : Ad),0⟩ : Pf))))
 (some false)).bind fun c2 =>
 (br c2
 (some true)
 (br (!decide (a0.kind = 2))
 (some (!(eqAd a0.ad (⟨false,0,0⟩ : Ad))))
 (some false))).bind fun c3 =>
 (br c3
 (some true)
 (br (!decide (a0.kind = 3))
 (br (!decide (a0.kind = 4))
 (some (zq1758 .neq a0.who (ByteArray.empty)))
 (some false))
 (some false))).bind fun c4 =>
 (br c4
 (some true)
 (br (!decide (a0.kind = 3))
 (some (!decide (a0.of_ = 0)))
 (some false))).bind fun c5 =>
 (br c5
 (some true)
 (br (!decide (a0.kind = 3))
 (br (!decide (a0.kind = 5))
 (some (!decide (a0.n = 0)))
 (some false))
 (some false))).bind fun c6 =>
 br c6
 (some (1,()))
 (br (decide (a0.kind = 1))
 ((zq97 a0.pf).bind fun y7 =>
 (br (decide (y7.1 = 0))
 ((zq115 a0.pf).bind fun y8 =>
 some (!y8.1))
 (some false)).bind fun c8 =>
 br c8
 (some (2,()))
 (some (y7.1,())))
 (br (decide (a0.kind = 2))
 ((zq46 a0.ad).bind fun y7 =>
 some (y7.1,()))
 ((br (decide (a0.kind < 5))
 ((zq124 a0.who).bind fun y7 =>
 some (!y7.1))
 (some false)).bind fun c7 =>
 br c7
 (some (1,()))
 ((br (decide (a0.kind = 3))
 ((zq159 a0.of_ 0 2).bind fun y8 =>
 br (!y8.1)
 (some true)
 ((zq159 a0.n 1 500).bind fun y9 =>
 some (!y9.1)))
 (some false)).bind fun c8 =>
 br c8
 (some (3,()))
 ((br (decide (a0.kind = 5))
 ((zq159 a0.n 0 9999).bind fun y9 =>
 some (!y9.1))
 (some false)).bind fun c9 =>
 br c9
 (some (3,()))
 (some (0,()))))))))
abbrev R_CheckLog_L4_A := ((Unit × (Int × Unit) × Unit) × (List En × Unit))
abbrev R_CheckLog_L4_B := Option ((((Int × Unit) × Unit) × (List En × Unit)) ⊕ (Unit × (List En × Unit)))
def zq74 (rec : R_CheckLog_L4_A → R_CheckLog_L4_B) (x : R_CheckLog_L4_A) : R_CheckLog_L4_B :=
 let v0 := x.1.2.1.1
 let v1 := x.2.1
 br (decide (v0 < lenL v1))
 (req (zq751 v0 (lenL v1)) <|
 req (zq751 v0 (lenL v1)) <|
 (geti v1 v0).bind fun p1 =>
 req (i64ok (v0 + 1)) <|
 br (!decide (p1.num = v0 + 1))
 (some (Sum.inl (((4,()),()),(v1,()))))
 (req (zq751 v0 (lenL v1)) <|
 req (zq751 v0 (lenL v1)) <|
 (geti v1 v0).bind fun p2 =>
 (zq159 p2.epoch 1 999).bind fun y3 =>
 br (!y3.1)
 (some (Sum.inl (((3,()),()),(v1,()))))
 ((br (decide (v0 > 0))
 (req (zq751 v0 (lenL v1)) <|
 req (zq751 v0 (lenL v1)) <|
 (geti v1 v0).bind fun p4 =>
 req (i64ok (v0 - 1)) <|
 req (zq751 (v0 - 1) (lenL v1)) <|
 req (zq751 (v0 - 1) (lenL v1)) <|
 (geti v1 (v0 - 1)).bind fun p5 =>
 some (decide (p4.epoch < p5.epoch)))
 (some false)).bind fun c4 =>
 br c4
 (some (Sum.inl (((4,()),()),(v1,()))))
 (req (zq751 v0 (lenL v1)) <|
 req (zq751 v0 (lenL v1)) <|
 (geti v1 v0).bind fun p5 =>
 (zq88 p5.op).bind fun y6 =>
 br (!decide (y6.1 = 0))
 (some (Sum.inl (((y6.1,()),()),(v1,()))))
 (req (i64ok (v0 + 1)) <|
 rec (((),(v0 + 1,()),()),(v1,())))))))
 (some (Sum.inr (((),(v1,())))))
def zq82 (a0 : List En) : Option (Int × Unit) :=
 br (decide (lenL a0 > 30))
 (some (2,()))
 ((loopN zq74 FUEL (((()),(0,()),()),(a0,()))).bind fun y1 =>
 sumC y1 (fun y2 =>
 some (y2.1.1.1,())) (fun y3 =>
 some (0,())))
abbrev R_CheckDisk_L7_A := ((Unit × (Int × Unit) × (Int × Unit) × Unit) × (List En × (Int × Int × Int × Unit) × Unit))
abbrev R_CheckDisk_L7_B := Option (((Int × Unit) × Unit) × (List En × Unit))
def zq59 (rec : R_CheckDisk_L7_A → R_CheckDisk_L7_B) (x : R_CheckDisk_L7_A) : R_CheckDisk_L7_B :=
 let v0 := x.1.2.1.1
 let v1 := x.1.2.2.1.1
 let v2 := x.2.1
 let v3 := x.2.2.1.1
 let v4 := x.2.2.1.2.1
 let v5 := x.2.2.1.2.2.1
 (br (decide (v1 < lenL v2))
 (some (decide (v0 = 0)))
 (some false)).bind fun c1 =>
 br c1
 (req (zq751 v1 (lenL v2)) <|
 req (zq751 v1 (lenL v2)) <|
 (geti v2 v1).bind fun p2 =>
 br (decide (p2.epoch > v3))
 (req (i64ok (v1 + 1)) <|
 rec (((),(4,()),(v1 + 1,()),()),(v2,(v3,v4,v5,()),())))
 (req (i64ok (v1 + 1)) <|
 rec (((),(v0,()),(v1 + 1,()),()),(v2,(v3,v4,v5,()),()))))
 (some (((v0,()),()),(v2,())))
def zq67 (a0 : Int) (a1 : Int) (a2 : Int) (a3 : List En) : Option (Int × Unit) :=
 (zq159 a0 0 999).bind fun y1 =>
 (br (!y1.1)
 (some true)
 ((zq159 a1 0 2).bind fun y2 =>
 some (!y2.1))).bind fun c2 =>
 (br c2
 (some true)
 ((zq159 a2 0 10009).bind fun y3 =>
 some (!y3.1))).bind fun c3 =>
 br c3
 (some (3,()))
 ((br (decide (a1 = 0))
 (br (decide (a0 > 0))
 (some true)
 (some (decide (a2 > 0))))
 (some false)).bind fun c4 =>
 (br c4
 (some true)
 (br (decide (a1 > 0))
 (some (decide (a0 = 0)))
 (some false))).bind fun c5 =>
 br c5
 (some (4,()))
 ((zq82 a3).bind fun y6 =>
 (loopN zq59 FUEL (((()),(y6.1,()),(0,()),()),(a3,(a0,a1,a2,()),()))).bind fun y7 =>
 some (y7.1.1.1,())))
def zq103 (a0 : List En) (a1 : List En) : Option (Bool × Unit) :=
 br (decide (lenL a0 > lenL a1))
 (some (false,()))
 (req ((decide (0 ≤ lenL a0)) && (decide (lenL a0 ≤ lenL a1))) <|
 (zq147 a0 (subL a1 0 (lenL a0))).bind fun y1 =>
 some (y1.1,()))
abbrev R_CheckCluster_L9_A := ((Unit × (Int × Unit) × Unit) × (List En × List (List En) × List Int × (Int × Int × Int × Int × Unit) × Unit))
abbrev R_CheckCluster_L9_B := Option ((((Int × Unit) × Unit) × (List En × List (List En) × List Int × Unit)) ⊕ ((Unit × Unit) × (List En × List (List En) × List Int × (Int × Int × Int × Int × Unit) × Unit)))
def zq50 (rec : R_CheckCluster_L9_A → R_CheckCluster_L9_B) (x : R_CheckCluster_L9_A) : R_CheckCluster_L9_B :=
 let v0 := x.1.2.1.1
 let v1 := x.2.1
 let v2 := x.2.2.1
 let v3 := x.2.2.2.1
 let zz := x.2.2.2.2
 let v4 := zz.1.1
 let v5 := zz.1.2.1
 let v6 := zz.1.2.2.1
 let v7 := zz.1.2.2.2.1
 br (decide (v0 < 2))
 (req (zq751 v0 (lenL v3)) <|
 req (zq751 v0 (lenL v3)) <|
 (geti v3 v0).bind fun p1 =>
 (zq159 p1 0 v5).bind fun y2 =>
 br (!y2.1)
 (some (Sum.inl (((3,()),()),(v1,v2,v3,()))))
 (req (zq751 v0 (lenL v3)) <|
 req (zq751 v0 (lenL v3)) <|
 (geti v3 v0).bind fun p3 =>
 (zq82 (getL v2 v0)).bind fun y4 =>
 br (!decide (y4.1 = 0))
 (some (Sum.inl (((y4.1,()),()),(v1,v2,v3,()))))
 (req (zq751 v0 (lenL v3)) <|
 req (zq751 v0 (lenL v3)) <|
 (geti v3 v0).bind fun p5 =>
 (zq103 (getL v2 v0) v1).bind fun y6 =>
 br (!y6.1)
 (some (Sum.inl (((4,()),()),(v1,v2,v3,()))))
 (req (i64ok (v0 + 1)) <|
 rec (((),(v0 + 1,()),()),(v1,v2,v3,(v4,v5,v6,v7,()),()))))))
 (some (Sum.inr ((((),()),(v1,v2,v3,(v4,v5,v6,v7,()),())))))
abbrev R_CheckCluster_L21_A := ((Unit × (Int × Unit) × Unit) × (List En × List (List En) × List Int × (Int × Int × Int × Int × Unit) × Unit))
abbrev R_CheckCluster_L21_B := Option ((((Int × Unit) × Unit) × (List En × List (List En) × List Int × Unit)) ⊕ (Unit × (List En × List (List En) × List Int × Unit)))
def zq47 (rec : R_CheckCluster_L21_A → R_CheckCluster_L21_B) (x : R_CheckCluster_L21_A) : R_CheckCluster_L21_B :=
 let v0 := x.1.2.1.1
 let v1 := x.2.1
 let v2 := x.2.2.1
 let v3 := x.2.2.2.1
 let zz := x.2.2.2.2
 let v4 := zz.1.1
 let v5 := zz.1.2.1
 let v6 := zz.1.2.2.1
 let v7 := zz.1.2.2.2.1
 br (decide (v0 < 2))
 (req (zq751 v0 (lenL v3)) <|
 req (zq751 v0 (lenL v3)) <|
 (geti v3 v0).bind fun p1 =>
 (br (!decide (p1 = 0))
 (req (zq751 v0 (lenL v3)) <|
 req (zq751 v0 (lenL v3)) <|
 (geti v3 v0).bind fun p2 =>
 some (decide (p2 = v5)))
 (some false)).bind fun c2 =>
 (br c2
 (req (i64ok (v0 + 1)) <|
 some (!decide (v6 = v0 + 1)))
 (some false)).bind fun c3 =>
 br c3
 (some (Sum.inl (((4,()),()),(v1,v2,v3,()))))
 (req (i64ok (v0 + 1)) <|
 rec (((),(v0 + 1,()),()),(v1,v2,v3,(v4,v5,v6,v7,()),()))))
 (some (Sum.inr (((),(v1,v2,v3,())))))
def zq58 (a0 : Int) (a1 : Int) (a2 : Int) (a3 : Int) (a4 : List En) (a5 : List Int × List (List En)) : Option (Int × Unit) :=
 (zq159 a0 0 9999).bind fun y1 =>
 br (!y1.1)
 (some (3,()))
 ((zq67 a1 a2 a3 a4).bind fun y2 =>
 br (!decide (y2.1 = 0))
 (some (y2.1,()))
 (br (!decide (lenL a5.1 = 2))
 (some (1,()))
 ((loopN zq50 FUEL (((()),(0,()),()),(a4,a5.2,a5.1,(a0,a1,a2,a3,()),()))).bind fun y3 =>
 sumC y3 (fun y4 =>
 some (y4.1.1.1,())) (fun y5 =>
 req (zq751 0 (lenL y5.2.2.2.1)) <|
 req (zq751 0 (lenL y5.2.2.2.1)) <|
 (geti y5.2.2.2.1 0).bind fun p6 =>
 req (zq751 1 (lenL y5.2.2.2.1)) <|
 req (zq751 1 (lenL y5.2.2.2.1)) <|
 (geti y5.2.2.2.1 1).bind fun p7 =>
 (br (decide (p6 = p7))
 (req (zq751 0 (lenL y5.2.2.2.1)) <|
 req (zq751 0 (lenL y5.2.2.2.1)) <|
 (geti y5.2.2.2.1 0).bind fun p8 =>
 some (!decide (p8 = 0)))
 (some false)).bind fun c8 =>
 br c8
 (some (4,()))
 ((loopN zq47 FUEL (((()),(0,()),()),(y5.2.1,y5.2.2.1,y5.2.2.2.1,(y5.2.2.2.2.1.1,y5.2.2.2.2.1.2.1,y5.2.2.2.2.1.2.2.1,y5.2.2.2.2.1.2.2.2.1,()),()))).bind fun y9 =>
 sumC y9 (fun y10 =>
 some (y10.1.1.1,())) (fun y11 =>
 some (0,())))))))
def zq73 (a0 : Int) (a1 : Ev) : Option (Int × Unit) :=
 (zq159 a1.kind 1 5).bind fun y1 =>
 br (!y1.1)
 (some (7,()))
 ((br (decide (a1.kind = 1))
 (some (!decide (a1.who = 0)))
 (some false)).bind fun c2 =>
 (br c2
 (some true)
 (br (!decide (a1.kind = 1))
 (br (!decide (a1.kind = 4))
 (some (!decide (a1.n = 0)))
 (some false))
 (some false))).bind fun c3 =>
 (br c3
 (some true)
 (br (!decide (a1.kind = 3))
 (some (!(eqOq a1.op (⟨0,(⟨(⟨false,0,0⟩ : Ad),0⟩ : Pf),(⟨false,0,0⟩ : Ad),(ByteArray.empty),0,0⟩ : Oq))))
 (some false))).bind fun c4 =>
 br c4
 (some (1,()))
 ((br (!decide (a1.kind = 1))
 ((zq159 a1.who 1 2).bind fun y5 =>
 some (!y5.1))
 (some false)).bind fun c5 =>
 (br c5
 (some true)
 (br (decide (a1.kind = 4))
 ((zq159 a1.n 0 30).bind fun y6 =>
 some (!y6.1))
 (some false))).bind fun c6 =>
 (br c6
 (some true)
 (br (decide (a1.kind = 1))
 (br (decide (a1.n < 0))
 (some true)
 (req (i64ok (9999 - a0)) <|
 some (decide (a1.n > 9999 - a0))))
 (some false))).bind fun c7 =>
 br c7
 (some (3,()))
 (some (0,()))))
def zq13 (a0 : Int) (a1 : Int) (a2 : Int) (a3 : List En) (a4 : Int) (a5 : Int) : Option ((Int × Int × Int × (List En) × Unit) × Int × Unit) :=
 (br (!decide (a1 = 0))
 (some (decide (a2 ≥ a5)))
 (some false)).bind fun c1 =>
 (br c1
 (some (!decide (a1 = a4)))
 (some false)).bind fun c2 =>
 br c2
 (some ((0,0,0,([] : List En),()),4,()))
 (br (!c1)
 (req (i64ok (a0 + 1)) <|
 br (decide (a0 + 1 > 999))
 (some ((0,0,0,([] : List En),()),2,()))
 (req (i64ok (a5 + 10)) <|
 some ((a0 + 1,a4,a5 + 10,a3,()),0,())))
 (br (decide (a0 > 999))
 (some ((0,0,0,([] : List En),()),2,()))
 (req (i64ok (a5 + 10)) <|
 some ((a0,a4,a5 + 10,a3,()),0,()))))
def zq19 (a0 : List En) (a1 : Int) (a2 : Oq) : Option ((List En) × Int × Unit) :=
 (zq159 a1 1 999).bind fun y1 =>
 br (!y1.1)
 (some (([] : List En),3,()))
 ((br (decide (lenL a0 > 0))
 (req (i64ok ((lenL a0) - 1)) <|
 req (zq751 ((lenL a0) - 1) (lenL a0)) <|
 req (zq751 ((lenL a0) - 1) (lenL a0)) <|
 (geti a0 ((lenL a0) - 1)).bind fun p2 =>
 some (decide (a1 < p2.epoch)))
 (some false)).bind fun c2 =>
 br c2
 (some (([] : List En),4,()))
 ((zq88 a2).bind fun y3 =>
 br (!decide (y3.1 = 0))
 (some (([] : List En),y3.1,()))
 (br (decide (lenL a0 = 30))
 (some (([] : List En),2,()))
 (req (i64ok ((lenL a0) + 1)) <|
 both
 (dup 1 <|
 req (room (lenL ([] : List En)) (lenL a0)) <|
 req (room (lenL (([] : List En) ++ a0)) (lenL ([(⟨(lenL a0) + 1,a1,a2⟩ : En)] : List En))) <|
 some ((([] : List En) ++ a0) ++ ([(⟨(lenL a0) + 1,a1,a2⟩ : En)] : List En),0,()))
 (req (room (lenL ([] : List En)) (lenL a0)) <|
 req (room (lenL (([] : List En) ++ a0)) (lenL ([(⟨(lenL a0) + 1,a1,a2⟩ : En)] : List En))) <|
 some ((([] : List En) ++ a0) ++ ([(⟨(lenL a0) + 1,a1,a2⟩ : En)] : List En),0,()))))))
def zq153 (a0 : Int) (a1 : Int) (a2 : Int) (a3 : List En) (a4 : Int) (a5 : Oq) : Option ((Int × Int × Int × (List En) × Unit) × Int × Unit) :=
 (br (!decide (a4 = a0))
 (some true)
 (some (decide (a4 = 0)))).bind fun c1 =>
 br c1
 (some ((0,0,0,([] : List En),()),4,()))
 ((zq19 a3 a4 a5).bind fun y2 =>
 br (!decide (y2.2.1 = 0))
 (some ((0,0,0,([] : List En),()),y2.2.1,()))
 (some ((a0,a1,a2,y2.1,()),y2.2.1,())))
abbrev R_BehindOf_L3_A := ((Unit × Unit × (Int × Unit) × Unit × (Int × Unit) × Unit) × (List En × List En × List En × Unit))
abbrev R_BehindOf_L3_B := Option ((Unit × Unit) × (List En × List En × List En × Unit))
def zq20 (rec : R_BehindOf_L3_A → R_BehindOf_L3_B) (x : R_BehindOf_L3_A) : R_BehindOf_L3_B :=
 let v0 := x.1.2.2.1.1
 let v1 := x.1.2.2.2.2.1.1
 let v2 := x.2.1
 let v3 := x.2.2.1
 let v4 := x.2.2.2.1
 (br (decide (v1 < lenL v3))
 (req (i64ok ((lenL v2) + v0)) <|
 some (decide (v1 < (lenL v2) + v0)))
 (some false)).bind fun c1 =>
 br c1
 (req (zq751 v1 (lenL v3)) <|
 (geti v3 v1).bind fun p2 =>
 req (room (lenL v4) (lenL ([p2] : List En))) <|
 req (i64ok (v1 + 1)) <|
 rec (((),(),(v0,()),(),(v1 + 1,()),()),(v2,v3,v4 ++ ([p2] : List En),())))
 (some (((),()),(v2,v3,v4,())))
def zq28 (a0 : List En) (a1 : List En) (a2 : Int) : Option ((List En) × Unit) :=
 (loopN zq20 FUEL (((()),(()),(a2,()),(()),(lenL a0,()),()),(a0,a1,([] : List En),()))).bind fun y1 =>
 some (y1.2.2.2.1,())
def zq109 (a0 : Int) (a1 : Int) (a2 : Int) (a3 : Int) (a4 : List En) (a5 : List Int × List (List En)) (a6 : Ev) : Option ((Int × Int × Int × Int × (List En) × (List Int × List (List En)) × Unit) × Bool × Unit) :=
 req (room (lenL ([] : List Int)) (lenL a5.1)) <|
 req (i64ok (a6.who - 1)) <|
 br (decide (a6.kind = 1))
 (req (i64ok (a0 + a6.n)) <|
 some ((a0 + a6.n,a1,a2,a3,a4,(([] : List Int) ++ a5.1,padL ([] : List Int).length ([] : List (List En)) ++ a5.2),()),true,()))
 (br (decide (a6.kind = 2))
 ((zq13 a1 a2 a3 a4 a6.who a0).bind fun y1 =>
 br (!decide (y1.2.1 = 0))
 (some ((a0,a1,a2,a3,a4,a5,()),false,()))
 (req (zq751 (a6.who - 1) (lenL (([] : List Int) ++ a5.1))) <|
 req (zq751 (a6.who - 1) (lenL (([] : List Int) ++ a5.1))) <|
 (geti (([] : List Int) ++ a5.1) (a6.who - 1)).bind fun p2 =>
 some ((a0,y1.1.1,y1.1.2.1,y1.1.2.2.1,y1.1.2.2.2.1,(seti (([] : List Int) ++ a5.1) (a6.who - 1) y1.1.1,padL ([] : List Int).length ([] : List (List En)) ++ a5.2),()),true,())))
 (br (decide (a6.kind = 3))
 (req (zq751 (a6.who - 1) (lenL a5.1)) <|
 req (zq751 (a6.who - 1) (lenL a5.1)) <|
 (geti a5.1 (a6.who - 1)).bind fun p1 =>
 dup 1 <|
 (zq153 a1 a2 a3 a4 p1 a6.op).bind fun y2 =>
 br (!decide (y2.2.1 = 0))
 (some ((a0,a1,a2,a3,a4,a5,()),false,()))
 (some ((a0,y2.1.1,y2.1.2.1,y2.1.2.2.1,y2.1.2.2.2.1,(([] : List Int) ++ a5.1,padL ([] : List Int).length ([] : List (List En)) ++ a5.2),()),true,())))
 (br (decide (a6.kind = 4))
 (req (zq751 (a6.who - 1) (lenL a5.1)) <|
 req (zq751 (a6.who - 1) (lenL a5.1)) <|
 (geti a5.1 (a6.who - 1)).bind fun p1 =>
 req (zq751 (a6.who - 1) (lenL a5.1)) <|
 req (zq751 (a6.who - 1) (lenL a5.1)) <|
 (geti a5.1 (a6.who - 1)).bind fun p2 =>
 req (room (lenL ([] : List En)) (lenL (getL a5.2 (a6.who - 1)))) <|
 (zq28 (getL a5.2 (a6.who - 1)) a4 a6.n).bind fun y3 =>
 req (room (lenL (([] : List En) ++ (getL a5.2 (a6.who - 1)))) (lenL y3.1)) <|
 req (zq751 (a6.who - 1) (lenL (([] : List Int) ++ a5.1))) <|
 req (zq751 (a6.who - 1) (lenL (([] : List Int) ++ a5.1))) <|
 (geti (([] : List Int) ++ a5.1) (a6.who - 1)).bind fun p4 =>
 some ((a0,a1,a2,a3,a4,(seti (([] : List Int) ++ a5.1) (a6.who - 1) p4,seti (padL (([] : List Int) ++ a5.1).length (padL ([] : List Int).length ([] : List (List En)) ++ a5.2)) (a6.who - 1) ((([] : List En) ++ (getL a5.2 (a6.who - 1))) ++ y3.1)),()),true,()))
 (br (decide (a6.kind = 5))
 (req (zq751 (a6.who - 1) (lenL (([] : List Int) ++ a5.1))) <|
 (geti (([] : List Int) ++ a5.1) (a6.who - 1)).bind fun p1 =>
 some ((a0,a1,a2,a3,a4,(seti (([] : List Int) ++ a5.1) (a6.who - 1) 0,seti (padL (([] : List Int) ++ a5.1).length (padL ([] : List Int).length ([] : List (List En)) ++ a5.2)) (a6.who - 1) ([] : List En)),()),true,()))
 (some ((a0,a1,a2,a3,a4,(([] : List Int) ++ a5.1,padL ([] : List Int).length ([] : List (List En)) ++ a5.2),()),true,()))))))
def zq138 (a0 : Int) (a1 : Int) (a2 : Int) (a3 : List En) (a4 : Int) (a5 : Int) (a6 : Int) (a7 : List En) : Option (Bool × Unit) :=
 (br (decide (a0 = a4))
 (some ((decide (a1 = a5)) && (decide (a2 = a6))))
 (some false)).bind fun c1 =>
 (br c1
 ((zq147 a3 a7).bind fun y2 =>
 some y2.1)
 (some false)).bind fun c2 =>
 some (c2,())
abbrev R_SameCluster_L4_A := ((Unit × Unit × (Int × Unit) × Unit) × (List En × List (List En) × List Int × List En × List (List En) × List Int × (Int × Int × Int × Int × Unit) × (Int × Int × Int × Int × Unit) × Unit))
abbrev R_SameCluster_L4_B := Option ((((Bool × Unit) × Unit) × (List En × List (List En) × List Int × List En × List (List En) × List Int × Unit)) ⊕ (Unit × (List En × List (List En) × List Int × List En × List (List En) × List Int × Unit)))
def zq125 (rec : R_SameCluster_L4_A → R_SameCluster_L4_B) (x : R_SameCluster_L4_A) : R_SameCluster_L4_B :=
 let v0 := x.1.2.2.1.1
 let v1 := x.2.1
 let v2 := x.2.2.1
 let v3 := x.2.2.2.1
 let v4 := x.2.2.2.2.1
 let v5 := x.2.2.2.2.2.1
 let v6 := x.2.2.2.2.2.2.1
 let zz := x.2.2.2.2.2.2.2
 let v7 := zz.1.1
 let v8 := zz.1.2.1
 let v9 := zz.1.2.2.1
 let v10 := zz.1.2.2.2.1
 let v11 := zz.2.1.1
 let v12 := zz.2.1.2.1
 let v13 := zz.2.1.2.2.1
 let v14 := zz.2.1.2.2.2.1
 br (decide (v0 < lenL v3))
 (req (zq751 v0 (lenL v3)) <|
 req (zq751 v0 (lenL v3)) <|
 (geti v3 v0).bind fun p1 =>
 req (zq751 v0 (lenL v6)) <|
 req (zq751 v0 (lenL v6)) <|
 (geti v6 v0).bind fun p2 =>
 (br (!decide (p1 = p2))
 (some true)
 (req (zq751 v0 (lenL v3)) <|
 req (zq751 v0 (lenL v3)) <|
 (geti v3 v0).bind fun p3 =>
 req (zq751 v0 (lenL v6)) <|
 req (zq751 v0 (lenL v6)) <|
 (geti v6 v0).bind fun p4 =>
 (zq147 (getL v2 v0) (getL v5 v0)).bind fun y5 =>
 some (!y5.1))).bind fun c3 =>
 br c3
 (some (Sum.inl (((false,()),()),(v1,v2,v3,v4,v5,v6,()))))
 (req (i64ok (v0 + 1)) <|
 rec (((),(),(v0 + 1,()),()),(v1,v2,v3,v4,v5,v6,(v7,v8,v9,v10,()),(v11,v12,v13,v14,()),()))))
 (some (Sum.inr (((),(v1,v2,v3,v4,v5,v6,())))))
def zq132 (a0 : Int) (a1 : Int) (a2 : Int) (a3 : Int) (a4 : List En) (a5 : List Int × List (List En)) (a6 : Int) (a7 : Int) (a8 : Int) (a9 : Int) (a10 : List En) (a11 : List Int × List (List En)) : Option (Bool × Unit) :=
 (br (!decide (a0 = a6))
 (some true)
 ((zq138 a1 a2 a3 a4 a7 a8 a9 a10).bind fun y1 =>
 some (!y1.1))).bind fun c1 =>
 (br c1
 (some true)
 (some (!decide (lenL a5.1 = lenL a11.1)))).bind fun c2 =>
 br c2
 (some (false,()))
 ((loopN zq125 FUEL (((()),(()),(0,()),()),(a4,a5.2,a5.1,a10,a11.2,a11.1,(a0,a1,a2,a3,()),(a6,a7,a8,a9,()),()))).bind fun y3 =>
 sumC y3 (fun y4 =>
 some (y4.1.1.1,())) (fun y5 =>
 some (true,())))
def zq862 (a0 : Int) (a1 : Int) (a2 : Int) (a3 : Int) (a4 : List En) (a5 : List Int × List (List En)) (a6 : Int) (a7 : Int) (a8 : Int) (a9 : Int) (a10 : Int) (a11 : Int) (a12 : List En) (a13 : List Int × List (List En)) : Option (Bool × Unit) :=
 br (!decide (a7 = 0))
 ((br (decide (a6 = a7))
 ((zq132 a0 a1 a2 a3 a4 a5 0 0 0 0 ([] : List En) (([] : List Int),([] : List (List En)))).bind fun y1 =>
 some y1.1)
 (some false)).bind fun c1 =>
 some (c1,()))
 ((br (decide (a6 = a7))
 ((zq132 a0 a1 a2 a3 a4 a5 a8 a9 a10 a11 a12 a13).bind fun y1 =>
 some y1.1)
 (some false)).bind fun c1 =>
 some (c1,()))
end Go.Ma
namespace Go.Ma
open Go
theorem zq249 (a : Ad) : zq251 a = some (chkA a,()) := by
 unfold zq251 chkA
 cases hv : a.v6 <;> by_cases h1 : a.hi = 0 <;> by_cases h2 : a.lo ≥ 4294967296 <;> simp [zq358,zq356,h1,h2]
theorem zq44 {a : Ad} (h : a.In) : zq46 a = some (chkA a,()) := by
 have h0 := h.1.1
 unfold zq46 chkA
 cases hv : a.v6 <;> by_cases h1 : a.hi > 0 <;> by_cases h2 : a.lo > 4294967295
 all_goals (simp [zq358,zq356,h1,h2]; try omega)
theorem zq1815 (v : Bool) : wid v ≤ 128 := by cases v <;> decide
theorem zq1354 (a : Ad) : zq1356 a = some (((wid a.v6 : Nat) : Int),()) := by
 unfold zq1356
 cases a.v6 <;> rfl
theorem zq163 (a : Ad) : zq165 a = some (((wid a.v6 : Nat) : Int),()) := by
 unfold zq165
 cases a.v6 <;> rfl
theorem zq157 (x a b : Int) : zq159 x a b = some (betw x a b,()) := by
 unfold zq159
 rw [br_ss,zq332,zq328]
theorem zq1360 (a : Ad) (bits : Int) (hb : 0 ≤ bits) (hb' : bits ≤ (wid a.v6 : Nat)) : zq1362 a bits = some (maskA a.v6 bits,()) := by
 unfold zq1362
 rw [zq1354,zq332,zq1104]
 have hw := zq1815 a.v6
 obtain ⟨r,hr⟩ : ∃ r : Nat,((wid a.v6 : Nat) : Int) - bits = (r : Int) := ⟨(((wid a.v6 : Nat) : Int) - bits).toNat,by omega⟩
 have hrn : wid a.v6 - bits.toNat = r := by omega
 rw [hrn,hr]
 rw [zq1463 (zq747 (by omega) (by omega))]
 by_cases h1 : r < 64
 ·rw [decide_eq_true (show (r : Int) < 64 by omega),zq358,zq1463 (by simp),decide_eq_false (show ¬ (r : Int) > 64 by omega),zq356,zq1571 h1]
  rw [show r - 64 = 0 by omega,Nat.min_eq_left (by omega)]
  rfl
 ·rw [decide_eq_false (show ¬ (r : Int) < 64 by omega),zq356]
  by_cases h2 : r > 64
  ·rw [decide_eq_true (show (r : Int) > 64 by omega),zq358]
   by_cases h3 : r < 128
   ·rw [decide_eq_true (show (r : Int) < 128 by omega),zq358,zq1463 (zq747 (by omega) (by omega)),zq1463 (by simp; omega)]
    rw [show (r : Int) - 64 = ((r - 64 : Nat) : Int) by omega,zq1571 (by omega),Nat.min_eq_right (by omega)]
    rfl
   ·rw [decide_eq_false (show ¬ (r : Int) < 128 by omega),zq356]
    have : r = 128 := by omega
    subst this
    rfl
  ·have : r = 64 := by omega
   subst this
   rfl
theorem zq1318 (a : Ad) (h : a.wf) (bits : Int) (hb : 0 ≤ bits) (hb' : bits ≤ (wid a.v6 : Nat)) : zq1320 a bits = some (cutA a bits,()) := by
 unfold zq1320
 rw [zq1360 a bits hb hb',zq332,zq1104,zq502 a h]
 obtain ⟨h1,h2,h3,h4⟩ := h
 have hw := zq1815 a.v6
 have e1 := zq281 a.hi.toNat (wid a.v6 - bits.toNat - 64) (by omega) (by omega)
 have e2 := zq281 a.lo.toNat (min (wid a.v6 - bits.toNat) 64) (by omega) (by omega)
 rw [Int.toNat_of_nonneg h1] at e1
 rw [Int.toNat_of_nonneg h3] at e2
 simp only
 rw [e1,e2]
theorem zq578 (a b : Ad) : eqAd a b = decide (a = b) := by
 have e : (a = b) ↔ (a.v6 = b.v6 ∧ a.hi = b.hi ∧ a.lo = b.lo) := by
  cases a; cases b
  simp only [Ad.mk.injEq]
 rw [Bool.eq_iff_iff,decide_eq_true_iff,e]
 unfold eqAd
 simp [beqB,acmp]
theorem zq1312 {p : Pf} (h : p.In) : zq1314 p = some (chkP p,()) := by
 unfold zq1314 chkP
 rw [zq249,zq332]
 by_cases h1 : chkA p.ad = 0
 ·simp only [h1,decide_true,zc10,zq356,ne_eq,not_true,if_false]
  rw [zq1354,zq332,br_ss,zq332]
  by_cases h2 : p.bits < 0 ∨ p.bits > wid p.ad.v6
  ·rw [if_pos h2]
   have : (bif decide (p.bits < 0) then true else decide (p.bits > ((wid p.ad.v6 : Nat) : Int))) = true := by
    rcases h2 with h2 | h2 <;> simp [h2]
   rw [this,zq358]
  ·rw [if_neg h2]
   have : (bif decide (p.bits < 0) then true else decide (p.bits > ((wid p.ad.v6 : Nat) : Int))) = false := by
    simp only [not_or] at h2
    simp [h2.1]; omega
   rw [this,zq356,zq1318 p.ad h.1.wf p.bits (by omega) (by omega),zq332,zq578]
   by_cases h3 : cutA p.ad p.bits = p.ad <;> simp [h3,zq358,zq356]
 ·simp [h1,zq358]
end Go.Ma
namespace Go.Ma
open Go
def lowB (b : UInt8) : Bool := betw (b.toNat : Int) 97 122 || betw (b.toNat : Int) 48 57
def whoOk (s : ByteArray) : Bool := s.data.toList.all lowB && betw (lenS s) 1 8
theorem zq986 (x a b : Int) : zq988 x a b = some (betw x a b,()) := by
 unfold zq988
 rw [br_ss,zq332,zq328]
theorem zq980 {s : ByteArray} (h : strIn s) : zq982 s = some (whoOk s,()) := by
 have hs : s.size < 9223372036854775808 := zq1100 h
 have hl : ∀ i,i ≤ s.size → loopN zq974 FUEL (((s,()),(lenS s,()),((i : Int),()),()),()) = some (if (s.data.toList.drop i).all lowB then Sum.inr (((s,()),()),()) else Sum.inl ((((false : Bool),()),()),())) := by
  intro i hi
  refine zq1087 (fun i => ((((s,()),(lenS s,()),((i : Int),()),()),()) : (((ByteArray × Unit) × (Int × Unit) × (Int × Unit) × Unit) × (Unit)))) s.size (fun i => some (if (s.data.toList.drop i).all lowB then Sum.inr (((s,()),()),()) else Sum.inl ((((false : Bool),()),()),()))) (fun rec i hi hr => ?_) (fun rec => ?_) FUEL i hi (zq703 (by omega))
  ·obtain ⟨b,hb⟩ : ∃ b,s.data.toList[i]? = some b := ⟨_,zc0 (by rw [zq506]; exact hi)⟩
   simp only [zq974]
   rw [decide_eq_true (show (i : Int) < lenS s by unfold lenS; omega),zq358,zq1463 (zq753 (by omega) (by unfold lenS; omega)),zq364 hb]
   rw [br_ss,zq332]
   simp only [br_ss,zq332]
   rw [show ((i : Int) + 1) = ((i + 1 : Nat) : Int) by omega] 
   rw [zq1463 (zq747 (by omega) (by omega)),hr,zq549 lowB hb]
   have : (bif !(bif decide ((b.toNat : Int) ≥ 97) then decide ((b.toNat : Int) ≤ 122) else false) then (bif decide ((b.toNat : Int) ≥ 48) then !decide ((b.toNat : Int) ≤ 57) else true) else false) = !lowB b := by
    rw [zq328]
    unfold lowB
    cases betw (b.toNat : Int) 97 122
    ·unfold betw
     by_cases h1 : (48 : Int) ≤ b.toNat <;> simp [h1]
    ·rfl
   rw [this]
   cases lowB b <;> simp [zq358,zq356]
  ·simp only [zq974]
   rw [decide_eq_false (show ¬ (s.size : Int) < lenS s by unfold lenS; omega),zq356,zc18 (by rw [zq506]; exact zc47 _)]
   rfl
 unfold zq982 whoOk
 have := hl 0 (Nat.zero_le _)
 rw [List.drop_zero] at this
 rw [show ((0 : Nat) : Int) = 0 from rfl] at this
 rw [this,zq332]
 cases s.data.toList.all lowB
 ·rfl
 ·simp only [if_true,sumC,zq986,zq332,Bool.true_and]
theorem zq942 {p : Pf} (h : chkP p = 0) : zq944 p = some (decide (((wid p.ad.v6 : Nat) : Int) - p.bits ≤ 4),()) := by
 obtain ⟨h1,h2⟩ := zq401 h
 have := zq1815 p.ad.v6
 unfold zq944
 rw [zq1354,zq332,zq1463 (zq747 (by simp only; omega) (by simp only; omega))]
end Go.Ma
namespace Go.Ma
open Go
theorem zq340 (n t c i : Nat) : (zq339 n t c)[i]? = if i < c then some (bitV n (t - i)) else none := by
 unfold zq339
 rw [List.getElem?_map]
 by_cases h : i < c
 ·rw [List.getElem?_range h,if_pos h]; rfl
 ·rw [if_neg h,List.getElem?_eq_none (by simpa using h)]; rfl
theorem zq1162 (hi lo i : Nat) (hlo : lo < 18446744073709551616) : (hi * 18446744073709551616 + lo).testBit i = if i < 64 then lo.testBit i else hi.testBit (i - 64) := by
 have := Nat.testBit_two_pow_mul_add (i := 64) hi (b := lo) (by simpa using hlo) i
 rw [Nat.mul_comm,show (18446744073709551616 : Nat) = 2 ^ 64 by decide]
 exact this
theorem zq333 {n i m j : Nat} (h : n.testBit i = m.testBit j) : bitV n i = bitV m j := by unfold bitV; rw [h]
theorem zq337 {a : Ad} (h : a.wf) (hc : chkA a = 0) : bitsA a = zq339 a.num (wid a.v6 - 1) (wid a.v6) := by
 obtain ⟨h1,h2,h3,h4⟩ := h
 have hlo : a.lo.toNat < 18446744073709551616 := by omega
 unfold bitsA Ad.num
 apply List.ext_getElem?
 intro i
 cases hv : a.v6
 ·unfold chkA at hc
  rw [hv] at hc
  have hz : a.hi = 0 ∧ ¬ (4294967296 : Int) ≤ a.lo := by
   split at hc
   ·cases hc
   ·rename_i hn
    simp only [true_and,not_or,zc49] at hn
    exact hn
  simp only [zc16,if_false,wid]
  rw [zc39,zc12 (by rw [zq341]; omega),zq341,zq340,zq340,hz.1]
  by_cases hi : i < 32
  ·rw [if_pos (by omega),if_pos hi]
   have e : 63 - (96 + i - 64) = 32 - 1 - i := by omega
   rw [e]
   simp
  ·rw [if_neg (by omega),if_neg hi]
 ·simp only [if_true,wid]
  rw [zq340]
  by_cases hi : i < 64
  ·rw [zc6 (by rw [zq341]; exact hi),zq340,if_pos hi,if_pos (by omega)]
   refine congrArg some (zq333 ?_)
   rw [zq1162 _ _ _ hlo,if_neg (by omega),show 128 - 1 - i - 64 = 63 - i by omega]
  ·rw [zc12 (by rw [zq341]; omega),zq341,zq340]
   by_cases hi2 : i < 128
   ·rw [if_pos (by omega),if_pos hi2]
    refine congrArg some (zq333 ?_)
    rw [zq1162 _ _ _ hlo,if_pos (by omega),show 63 - (i - 64) = 128 - 1 - i by omega]
   ·rw [if_neg (by omega),if_neg hi2]
theorem zq334 (n i : Nat) : (bitV n i == 48) = !n.testBit i := by unfold bitV; cases n.testBit i <;> rfl
theorem zq1123 (n k : Nat) : n % 2 ^ k = 0 ↔ ∀ i,i < k → n.testBit i = false := by
 constructor
 ·intro h i hi
  have := Nat.testBit_mod_two_pow n k i
  rw [h] at this
  simpa [hi] using this.symm
 ·intro h
  apply Nat.eq_of_testBit_eq
  intro i
  rw [Nat.testBit_mod_two_pow]
  by_cases hi : i < k <;> simp [hi,h]
theorem zq503 (n k : Nat) : cutN n k = n ↔ n % 2 ^ k = 0 := by
 unfold cutN
 have := Nat.div_add_mod n (2 ^ k)
 rw [Nat.mul_comm] at this
 omega
theorem zq1766 (n w b : Nat) (hb : b ≤ w) : ((zq339 n (w - 1) w).drop b).all (· == 48) = decide (cutN n (w - b) = n) := by
 rw [Bool.eq_iff_iff,decide_eq_true_iff,zq503,zq1123,zc17]
 constructor
 ·intro h i hi
  have hm : bitV n i ∈ (zq339 n (w - 1) w).drop b := by
   refine zc30.2 ⟨w - 1 - i - b,?_⟩
   rw [zc39,zq340,if_pos (by omega),show w - 1 - (b + (w - 1 - i - b)) = i by omega]
  have := h _ hm
  rw [zq334] at this
  simpa using this
 ·intro h x hx
  obtain ⟨j,hj⟩ := zc30.1 hx
  rw [zc39,zq340] at hj
  split at hj
  ·injection hj with hj
   subst hj
   rw [zq334,h _ (by omega)]
   rfl
  ·cases hj
theorem zq501 {a : Ad} (h : a.wf) (bits : Int) : cutA a bits = a ↔ cutN a.num (wid a.v6 - bits.toNat) = a.num := by
 unfold cutA
 constructor
 ·intro he
  have := congrArg Ad.num he
  rwa [zq1161] at this
 ·intro he
  rw [he,zq1171 a h]
def toI (l : List UInt8) : List Int := l.map fun b => (b.toNat : Int)
theorem zq1777 (l : List UInt8) : (toI l).length = l.length := by simp [toI]
theorem zq366 (l : List UInt8) : zq365 (toI l) = zq1163 l := by
 unfold zq365 toI zq1163
 congr 1
 rw [List.map_map]
 congr 1
 conv => rhs; rw [← List.map_id l]
 apply List.map_congr_left
 intro b _
 simp
theorem zq335 (x i : Int) (hx : 0 ≤ x) (hx' : x < 18446744073709551616) (hi : 0 ≤ i) (hi' : i ≤ 63) :
  convI .u8 (aop .add .u64 48 (aop .rem .u64 (aop .shr .u64 x i) 2)) = ((bitV x.toNat i.toNat).toNat : Int) := zq336 x i hx hx' hi hi'
theorem zq343 {a : Ad} (h : a.In) : loopN zq29 FUEL (((),(),(63,()),()),((a,()),([] : List Int),())) = some (((),(),()),((a,()),toI (zq339 a.hi.toNat 63 64),())) := by
 have := zq1087 (step := zq29) (fun j => (((),(),(63 - (j : Int),()),()),((a,()),toI (zq339 a.hi.toNat 63 j),()))) 64 (fun _ => some (((),(),()),((a,()),toI (zq339 a.hi.toNat 63 64),()))) (fun rec j hj hr => ?_) (fun rec => ?_) FUEL 0 (by omega) (zq703 (by omega))
 ·exact this
 ·simp only [zq29]
  rw [decide_eq_true (by omega),zq358,zq1466,zq335 _ _ h.1.1 h.1.2 (by omega) (by omega)]
  rw [zq1463 (zq1488 (zq989 _) (zq989 _) (by simp only [lenL,zq1777,zq341,List.length_cons,List.length_nil]; omega)),zq1463 (zq747 (by omega) (by omega))]
  rw [← hr]
  have e1 : (63 - (j : Int)).toNat = 63 - j := by omega
  have e2 : 63 - (j : Int) - 1 = 63 - ((j + 1 : Nat) : Int) := by omega
  rw [e1,e2,zq342]
  simp [toI]
 ·simp only [zq29]
  rw [decide_eq_false (by omega),zq356]
theorem zq344 {a : Ad} (h : a.In) : loopN zq32 FUEL (((),(),(63,()),()),((a,()),toI (zq339 a.hi.toNat 63 64),())) = some (((),(),()),((a,()),toI (zq339 a.hi.toNat 63 64) ++ toI (zq339 a.lo.toNat 63 64),())) := by
 have := zq1087 (step := zq32) (fun j => (((),(),(63 - (j : Int),()),()),((a,()),toI (zq339 a.hi.toNat 63 64) ++ toI (zq339 a.lo.toNat 63 j),()))) 64 (fun _ => some (((),(),()),((a,()),toI (zq339 a.hi.toNat 63 64) ++ toI (zq339 a.lo.toNat 63 64),()))) (fun rec j hj hr => ?_) (fun rec => ?_) FUEL 0 (by omega) (zq703 (by omega))
 ·rw [← this]
  simp [toI,zq339]
 ·simp only [zq32]
  rw [decide_eq_true (by omega),zq358,zq1466,zq335 _ _ h.2.1 h.2.2 (by omega) (by omega)]
  rw [zq1463 (zq1488 (zq989 _) (zq989 _) (by simp only [lenL,zc24,zq1777,zq341,List.length_cons,List.length_nil]; omega)),zq1463 (zq747 (by omega) (by omega))]
  rw [← hr]
  have e1 : (63 - (j : Int)).toNat = 63 - j := by omega
  have e2 : 63 - (j : Int) - 1 = 63 - ((j + 1 : Nat) : Int) := by omega
  rw [e1,e2,zq342 a.lo.toNat 63 j]
  simp [toI]
 ·simp only [zq32]
  rw [decide_eq_false (by omega),zq356]
theorem zq38 {a : Ad} (h : a.In) : zq40 a = some (zq1163 (bitsA a),()) := by
 unfold zq40 bitsA
 rw [zq343 h,zq332,zq344 h,zq332]
 have e : toI (zq339 a.hi.toNat 63 64) ++ toI (zq339 a.lo.toNat 63 64) = toI (zq339 a.hi.toNat 63 64 ++ zq339 a.lo.toNat 63 64) := by simp [toI]
 simp only [e]
 cases a.v6
 ·have hl : lenL (toI (zq339 a.hi.toNat 63 64 ++ zq339 a.lo.toNat 63 64)) = 128 := by simp only [lenL,zq1777,zc24,zq341]; rfl
  rw [hl,zc19,zq358,zq1463 (by decide)]
  have : subL (toI (zq339 a.hi.toNat 63 64 ++ zq339 a.lo.toNat 63 64)) 96 128 = toI ((zq339 a.hi.toNat 63 64 ++ zq339 a.lo.toNat 63 64).drop 96) := by
   unfold subL
   rw [show (128 : Int).toNat = 128 from rfl,show (96 : Int).toNat = 96 from rfl,List.take_of_length_le (by rw [zq1777]; simp [zq341])]
   simp [toI,List.map_drop]
  rw [this,zq366]
  rfl
 ·rw [zc10,zq356,zq366]
  rfl
theorem zq338 (a : Ad) : (bitsA a).length = wid a.v6 := by
 unfold bitsA wid
 cases a.v6 <;> simp [zq341]
theorem zq1164 (l : List UInt8) : (zq1163 l).data.toList = l := by simp [zq1163]
theorem zq1165 (l : List UInt8) : (zq1163 l).size = l.length := by simp [zq1163,ByteArray.size]
theorem zq1780 (b : UInt8) : ((b.toNat : Int) = 48) ↔ b = 48 := by
 constructor
 ·intro h
  apply UInt8.toNat_inj.1
  have : b.toNat = 48 := by omega
  rw [this]
  rfl
 ·rintro rfl; rfl
theorem zq407 (s : ByteArray) (k : Nat) (hs : s.size < 9223372036854775808) (hk : k ≤ s.size) : loopN zq89 FUEL (((s,()),((k : Int),()),()),()) = some (if (s.data.toList.drop k).all (· == 48) then Sum.inr ((),()) else Sum.inl (((4,()),()),())) := by
 refine zq1087 (step := zq89) (fun i => (((s,()),((i : Int),()),()),())) s.size (fun i => some (if (s.data.toList.drop i).all (· == 48) then Sum.inr ((),()) else Sum.inl (((4,()),()),()))) (fun rec i hi hr => ?_) (fun rec => ?_) FUEL k hk (zq703 (by omega))
 ·obtain ⟨b,hb⟩ : ∃ b,s.data.toList[i]? = some b := ⟨_,zc0 (by rw [zq506]; exact hi)⟩
  simp only [zq89]
  rw [decide_eq_true (show (i : Int) < lenS s by unfold lenS; omega),zq358,zq1463 (zq753 (by omega) (by unfold lenS; omega)),zq364 hb,zq549 _ hb]
  by_cases h48 : b = 48
  ·rw [decide_eq_true ((zq1780 b).2 h48),zc10,zq356,show ((i : Int) + 1) = ((i + 1 : Nat) : Int) by omega,zq1463 (zq747 (by omega) (by omega)),hr]
   simp [h48]
  ·rw [decide_eq_false (fun h => h48 ((zq1780 b).1 h)),zc19,zq358]
   simp [h48]
 ·simp only [zq89]
  rw [decide_eq_false (show ¬ (s.size : Int) < lenS s by unfold lenS; omega),zq356,zc18 (by rw [zq506]; exact zc47 _)]
  rfl
theorem zq95 {p : Pf} (h : p.In) : zq97 p = some (chkP p,()) := by
 unfold zq97 chkP
 rw [zq44 h.1,zq332]
 by_cases h1 : chkA p.ad = 0
 rotate_left
 ·simp [h1,zq358]
 simp only [h1,decide_true,zc10,zq356,ne_eq,not_true,if_false]
 rw [zq163,zq332,zq157,zq332]
 by_cases h2 : p.bits < 0 ∨ p.bits > wid p.ad.v6
 ·rw [if_pos h2]
  have : betw p.bits 0 ((wid p.ad.v6 : Nat) : Int) = false := by
   rw [Bool.eq_false_iff]
   intro hb
   have := zq329.1 hb
   omega
  rw [this]
  rfl
 rw [if_neg h2]
 simp only [not_or] at h2
 have : betw p.bits 0 ((wid p.ad.v6 : Nat) : Int) = true := zq329.2 ⟨by omega,by omega⟩
 rw [this]
 simp only [zc10,zq356]
 obtain ⟨k,hk⟩ : ∃ k : Nat,p.bits = (k : Int) := ⟨p.bits.toNat,by omega⟩
 have hw := zq1815 p.ad.v6
 rw [zq38 h.1,zq332,hk,zq407 _ _ (by rw [zq1165,zq338]; omega) (by rw [zq1165,zq338]; omega),zq332,zq1164,zq337 h.1.wf h1,zq1766 _ _ _ (by omega)]
 have e := zq501 h.1.wf (k : Int)
 rw [Int.toNat_natCast] at e
 by_cases h3 : cutN p.ad.num (wid p.ad.v6 - k) = p.ad.num
 ·have h4 := e.2 h3
  simp only [h3,h4,decide_true,if_true,not_true,if_false]
  rfl
 ·have h4 : ¬ cutA p.ad (k : Int) = p.ad := fun h => h3 (e.1 h)
  simp only [h3,h4,decide_false,zc16,not_false_eq_true,if_true,if_false]
  rfl
end Go.Ma
namespace Go.Ma
open Go
theorem zq260 (a b : Ad) : zq262 a b = some (ordA a b,()) := by
 unfold zq262 zq256 ordA ordI
 by_cases hv : a.v6 = b.v6
 ·have : beqB a.v6 b.v6 = true := by simp [beqB,hv]
  rw [this]
  simp only [zc10,zq356,zq332,hv,ne_eq,not_true,false_and,if_false]
  by_cases h1 : a.hi = b.hi
  ·simp only [h1,decide_true,zc10,zq356,not_true,if_false]
   by_cases h2 : a.lo < b.lo
   ·simp only [h2,decide_true,zq358,zq332,if_true]
   ·by_cases h3 : a.lo > b.lo
    ·simp only [h2,h3,decide_true,decide_false,zq358,zq356,zq332,if_true,if_false]
    ·simp only [h2,h3,decide_false,zq356,zq332,if_false]
  ·simp only [h1,decide_false,zc19,zq358,not_false_eq_true,if_true]
   by_cases h2 : a.hi < b.hi
   ·simp only [h2,decide_true,zq358,zq332,if_true]
   ·by_cases h3 : a.hi > b.hi
    ·simp only [h2,h3,decide_true,decide_false,zq358,zq356,zq332,if_true,if_false]
    ·simp only [h2,h3,decide_false,zq356,zq332,if_false]
 ·have : beqB a.v6 b.v6 = false := by simp [beqB,hv]
  rw [this]
  cases hb : b.v6 <;> simp_all [zq358,zq356]
theorem zq400 {p : Pf} (h : chkP p = 0) : chkA p.ad = 0 := by
 unfold chkP at h
 split at h
 ·rename_i h1; exact absurd h h1
 ·rename_i h1; exact zc49.1 h1
theorem zq402 {p : Pf} (h : chkP p = 0) : cutA p.ad p.bits = p.ad := by
 unfold chkP at h
 split at h
 ·rename_i h1; exact absurd h h1
 split at h
 ·cases h
 split at h
 ·cases h
 ·rename_i h1; exact zc49.1 h1
theorem zq1324 {p : Pf} {a : Ad} (h1 : 0 ≤ p.bits) (h2 : p.bits ≤ (wid p.ad.v6 : Nat)) (ha : a.In) : zq1326 p a = some (holds p a,()) := by
 unfold zq1326 holds
 by_cases hv : p.ad.v6 = a.v6
 ·rw [show beqB p.ad.v6 a.v6 = true by simp [beqB,hv],zq358,zq1318 a ha.wf p.bits h1 (by rw [← hv]; exact h2),zq332,zq332,zq578]
  simp [hv]
 ·rw [show beqB p.ad.v6 a.v6 = false by simp [beqB,hv],zq356,zq332]
  simp [hv]
end Go.Ma
namespace Go.Ma
open Go
def rank (a : Ad) : Nat := (if a.v6 then 340282366920938463463374607431768211456 else 0) + a.num
theorem zq1160 {a : Ad} (h : a.In) : a.num < 340282366920938463463374607431768211456 := by
 obtain ⟨⟨h1,h2⟩,h3,h4⟩ := h
 unfold Ad.num
 omega
theorem zq1246 {a b : Ad} (ha : a.In) (hb : b.In) : (ordA a b < 0 ↔ rank a < rank b) ∧ (ordA a b = 0 ↔ rank a = rank b) := by
 have h1 := zq1160 ha
 have h2 := zq1160 hb
 obtain ⟨⟨a1,a2⟩,a3,a4⟩ := ha
 obtain ⟨⟨b1,b2⟩,b3,b4⟩ := hb
 unfold ordA ordI rank
 unfold Ad.num at *
 cases hv : a.v6 <;> cases hw : b.v6 <;> simp
 ·by_cases h : a.hi = b.hi
  ·simp only [h,if_true]
   by_cases h3 : a.lo < b.lo
   ·simp only [h3,if_true]; omega
   ·by_cases h4 : b.lo < a.lo
    ·simp only [h3,h4,if_true,if_false]; omega
    ·have h5 : a.lo = b.lo := by omega
     simp [h5]
  ·simp only [h,if_false]
   by_cases h3 : a.hi < b.hi
   ·simp only [h3,if_true]; omega
   ·by_cases h4 : b.hi < a.hi
    ·simp only [h3,h4,if_true,if_false]; omega
    ·simp only [h3,h4,if_false]; omega
 ·omega
 ·omega
 ·by_cases h : a.hi = b.hi
  ·simp only [h,if_true]
   by_cases h3 : a.lo < b.lo
   ·simp only [h3,if_true]; omega
   ·by_cases h4 : b.lo < a.lo
    ·simp only [h3,h4,if_true,if_false]; omega
    ·have h5 : a.lo = b.lo := by omega
     simp [h5]
  ·simp only [h,if_false]
   by_cases h3 : a.hi < b.hi
   ·simp only [h3,if_true]; omega
   ·by_cases h4 : b.hi < a.hi
    ·simp only [h3,h4,if_true,if_false]; omega
    ·simp only [h3,h4,if_false]; omega
theorem zq1413 {a b : Ad} (ha : a.In) (hb : b.In) (h : rank a = rank b) : a = b := by
 have h1 := zq1160 ha
 have h2 := zq1160 hb
 unfold rank at h
 have hv : a.v6 = b.v6 := by
  cases hv : a.v6 <;> cases hw : b.v6 <;> first | rfl | (exfalso; rw [hv,hw] at h; simp at h; omega)
 refine zq1159 ha.wf hb.wf hv ?_
 rw [hv] at h
 omega
def lsIn (l : List Ls) : Prop := ∀ x ∈ l,x.In
def chkLs (x : Ls) : Int := if chkA x.ad ≠ 0 then chkA x.ad else if whoOk x.who = false then 1 else if betw x.upto 0 10499 = false then 3 else 0
def zq393 : List Ls → Int
 | [] => 0
 | x :: r => if chkLs x ≠ 0 then chkLs x else zq393 r
def ascF : Ad → List Ls → Bool
 | _,[] => true
 | a,x :: r => decide (ordA a x.ad < 0) && ascF x.ad r
def ascL : List Ls → Bool
 | [] => true
 | x :: r => ascF x.ad r
def allC (l : List Ls) (now : Int) : Int := if l.length > 20 then 2 else if zq393 l ≠ 0 then zq393 l else if ascL l = false then 4 else if betw now 0 9999 = false then 3 else 0
end Go.Ma
namespace Go.Ma
open Go
theorem zq496 (b : UInt8) : convI .i64 (b.toNat : Int) = (b.toNat : Int) := by
 have := b.toNat_lt
 exact wrap_i64 (by omega) (by omega)
theorem zq122 {s : ByteArray} (h : strIn s) : zq124 s = some (whoOk s,()) := by
 have hs : s.size < 9223372036854775808 := zq1100 h
 have hl : loopN zq116 FUEL (((s,()),(0,()),()),()) = some (if (s.data.toList.drop 0).all lowB then Sum.inr (((s,()),()),()) else Sum.inl ((((false : Bool),()),()),())) := by
  refine zq1087 (step := zq116) (fun i => (((s,()),((i : Int),()),()),())) s.size (fun i => some (if (s.data.toList.drop i).all lowB then Sum.inr (((s,()),()),()) else Sum.inl ((((false : Bool),()),()),()))) (fun rec i hi hr => ?_) (fun rec => ?_) FUEL 0 (Nat.zero_le _) (zq703 (by omega))
  ·obtain ⟨b,hb⟩ : ∃ b,s.data.toList[i]? = some b := ⟨_,zc0 (by rw [zq506]; exact hi)⟩
   simp only [zq116]
   have hr1 : zq751 (i : Int) (lenS s) = true := zq753 (by omega) (by unfold lenS; omega)
   rw [decide_eq_true (show (i : Int) < lenS s by unfold lenS; omega),zq358]
   simp only [hr1,zq1466,zq364 hb,zq496,zq157,zq332,br_sb]
   rw [show ((i : Int) + 1) = ((i + 1 : Nat) : Int) by omega,zq1463 (zq747 (by omega) (by omega)),hr,zq549 lowB hb]
   have : (bif !betw (b.toNat : Int) 97 122 then !betw (b.toNat : Int) 48 57 else false) = !lowB b := by
    unfold lowB
    cases betw (b.toNat : Int) 97 122 <;> cases betw (b.toNat : Int) 48 57 <;> rfl
   rw [this]
   cases lowB b <;> simp [zq358,zq356]
  ·simp only [zq116]
   rw [decide_eq_false (show ¬ (s.size : Int) < lenS s by unfold lenS; omega),zq356,zc18 (by rw [zq506]; exact zc47 _)]
   rfl
 unfold zq124 whoOk
 rw [hl,zq332,List.drop_zero]
 cases s.data.toList.all lowB
 ·rfl
 ·simp only [if_true,sumC,zq157,zq332,Bool.true_and]
theorem zq113 {p : Pf} (h : chkP p = 0) : zq115 p = some (decide (((wid p.ad.v6 : Nat) : Int) - p.bits ≤ 4),()) := by
 obtain ⟨h1,h2⟩ := zq401 h
 have := zq1815 p.ad.v6
 unfold zq115
 rw [zq163,zq332,zq1463 (zq747 (by simp only; omega) (by simp only; omega))]
end Go.Ma
namespace Go.Ma
open Go
def zq657 {α : Type} (q : α → Bool) : List α → Option Nat
 | [] => none
 | x :: r => if q x then some 0 else (zq657 q r).map (· + 1)
theorem zq659 {α : Type} {q : α → Bool} {l : List α} {i : Nat} {x : α} (h : l[i]? = some x) : (zq657 q (l.drop i)).map (· + i) = if q x then some i else (zq657 q (l.drop (i + 1))).map (· + (i + 1)) := by
 rw [zq550 h,zq657]
 cases q x
 ·simp only [zc16,if_false,Option.map_map]
  congr 1
  funext k
  simp only [Function.comp]
  omega
 ·simp
theorem zq661 {α : Type} {q : α → Bool} : ∀ {l : List α},zq657 q l = none → ∀ x ∈ l,q x = false
 | [],_,x,hx => by cases hx
 | y :: r,h,x,hx => by
  unfold zq657 at h
  split at h
  ·cases h
  ·rename_i hq
   rw [Option.map_eq_none_iff] at h
   rcases zc28.1 hx with rfl | hx
   ·simpa using hq
   ·exact zq661 h x hx
theorem zq662 {α : Type} {q : α → Bool} : ∀ {l : List α} {k : Nat},zq657 q l = some k → ∃ x,l[k]? = some x ∧ q x = true ∧ ∀ y ∈ l.take k,q y = false
 | [],_,h => by cases h
 | y :: r,k,h => by
  unfold zq657 at h
  split at h
  ·rename_i hq
   cases h
   exact ⟨y,rfl,hq,fun z hz => by simp at hz⟩
  ·rename_i hq
   obtain ⟨k',hk,rfl⟩ := zc7.1 h
   obtain ⟨x,h1,h2,h3⟩ := zq662 hk
   refine ⟨x,by simpa using h1,h2,fun z hz => ?_⟩
   rw [List.take_succ_cons] at hz
   rcases zc28.1 hz with rfl | hz
   ·simpa using hq
   ·exact h3 z hz
theorem zq660 {α : Type} {q : α → Bool} {l : List α} {k : Nat} (h : zq657 q l = some k) : k < l.length := by
 obtain ⟨x,h1,_⟩ := zq662 h
 exact (zc1.1 h1).1
theorem zq658 {α : Type} {q : α → Bool} : ∀ l : List α,(zq657 q l).isSome = l.any q
 | [] => rfl
 | x :: r => by
  unfold zq657
  cases h : q x
  ·simp [h,zq658 r]
  ·simp [h]
def idxI : Option Nat → Int
 | some k => (k : Int)
 | none => -1
def liveP (now : Int) (x : Ls) : Bool := decide (now ≤ x.upto)
def live (l : List Ls) (now : Int) : List Ls := l.filter (liveP now)
def overP (now : Int) (x : Ls) : Bool := decide (x.upto < now)
theorem zq1255 (now : Int) (x : Ls) : overP now x = !liveP now x := by
 unfold overP liveP
 by_cases h : x.upto < now
 ·have : ¬ now ≤ x.upto := by omega
  simp [h,this]
 ·have : now ≤ x.upto := by omega
  simp [h,this]
abbrev DL := List Ls × (Int × Unit) × List Ls × List Ls × List Ls × Unit
def zq1252 (l : List Ls) (now : Int) : Option Nat → (((Int × Unit) × Unit) × DL) ⊕ ((Unit) × DL)
 | some k => Sum.inl ((((k : Int),()),()),(l,(now,()),[],l,[],()))
 | none => Sum.inr ((),(l,(now,()),[],l,[],()))
theorem zq1004 {l : List Ls} (hlen : l.length ≤ 1048576) (now : Int) : loopN zq932 FUEL (((),(),(lenL l,()),(0,()),()),(l,(now,()),[],l,[],())) = some (zq1252 l now (zq657 (overP now) l)) := by
 have := zq1087 (step := zq932) (fun i => (((),(),(lenL l,()),((i : Int),()),()),(l,(now,()),[],l,[],()))) l.length (fun i => some (zq1252 l now ((zq657 (overP now) (l.drop i)).map (· + i)))) (fun rec i hi hr => ?_) (fun rec => ?_) FUEL 0 (Nat.zero_le _) (zq703 (by omega))
 ·simpa using this
 ·obtain ⟨e,he⟩ : ∃ e,l[i]? = some e := ⟨_,zc0 hi⟩
  simp only [zq932]
  rw [decide_eq_true (show (i : Int) < lenL l by unfold lenL; omega),zq358,zq1463 (zq753 (by omega) (by unfold lenL; omega)),zq709 he,zq332,zq920,zq332,zq659 he]
  unfold overP
  by_cases hc : e.upto < now
  ·simp only [hc,decide_true,zq358,if_true]
   rfl
  ·simp only [hc,decide_false,zq356]
   rw [show ((i : Int) + 1) = ((i + 1 : Nat) : Int) by omega,zq1463 (zq747 (by omega) (by omega)),hr]
   rfl
 ·simp only [zq932]
  rw [decide_eq_false (show ¬ (l.length : Int) < lenL l by unfold lenL; omega),zq356,zc18 (zc47 _)]
  rfl
theorem zq1005 {l : List Ls} (hlen : l.length ≤ 1048576) (now : Int) : ∀ (N j w : Nat) (r : List Ls),l.length - j < N → j ≤ l.length → w < j → r.length = l.length → r.take w = live (l.take j) now → r.drop j = l.drop j →
  ∃ (w' : Nat) (r' : List Ls),loopN zq926 N (((),(),((w : Int),()),((j : Int),()),()),(l,(now,()),[],r,())) = some (((),((w' : Int),()),()),(l,(now,()),[],r',())) ∧ r'.take w' = live l now ∧ w' ≤ r'.length
 | 0,_,_,_,h,_,_,_,_,_ => by omega
 | N + 1,j,w,r,hN,hj,hw,hr,ht,hd => by
  rw [zq1083]
  simp only [zq926]
  by_cases hjl : j < l.length
  ·obtain ⟨e,he⟩ : ∃ e,l[j]? = some e := ⟨_,zc0 hjl⟩
   have her : r[j]? = some e := by
    have := congrArg (fun x : List Ls => x[0]?) hd
    simp only [zc39,Nat.add_zero] at this
    rw [this,he]
   have hlt : live (l.take (j + 1)) now = live (l.take j) now ++ (if liveP now e then [e] else []) := by
    unfold live
    have hx := (zc1.1 he).2
    rw [zc26 hjl,List.filter_append,hx]
    congr 1
    simp only [List.filter_cons,List.filter_nil]
   have hd1 : r.drop (j + 1) = l.drop (j + 1) := by
    have := congrArg (List.drop 1) hd
    simpa using this
   rw [decide_eq_true (show (j : Int) < lenL r by unfold lenL; omega),zq358,zq1463 (zq753 (by omega) (by unfold lenL; omega)),zq709 her,zq332,zq920,zq332]
   have ho := zq1255 now e
   unfold overP at ho
   cases hp : liveP now e
   ·rw [hp] at ho hlt
    simp only [ho,zc19,zc10,zq356]
    rw [show ((j : Int) + 1) = ((j + 1 : Nat) : Int) by omega,zq1463 (zq747 (by omega) (by omega))]
    exact zq1005 hlen now N (j + 1) w r (by omega) (by omega) (by omega) hr (by rw [ht,hlt]; simp) hd1
   ·rw [hp] at ho hlt
    obtain ⟨e2,he2⟩ : ∃ e,r[w]? = some e := ⟨_,zc0 (by omega)⟩
    simp only [ho,zc19,zc10,zq358]
    rw [zq1463 (zq753 (by omega) (by unfold lenL; omega)),zq709 he2,zq332,show ((j : Int) + 1) = ((j + 1 : Nat) : Int) by omega,show ((w : Int) + 1) = ((w + 1 : Nat) : Int) by omega,zq1463 (zq747 (by omega) (by omega)),zq1463 (zq747 (by omega) (by omega))]
    have hs : seti r (w : Int) e = r.set w e := by simp [seti]
    rw [hs]
    refine zq1005 hlen now N (j + 1) (w + 1) (r.set w e) (by omega) (by omega) (by omega) (by simp [hr]) ?_ ?_
    ·rw [hlt,← ht]
     have hwl : w < (r.set w e).length := by simp; omega
     rw [zc26 hwl,List.take_set_of_le (zc47 _)]
     simp
    ·rw [List.drop_set_of_lt (by omega),hd1]
  ·have : j = l.length := by omega
   subst this
   rw [decide_eq_false (show ¬ (l.length : Int) < lenL r by unfold lenL; omega),zq356]
   rw [List.take_of_length_le (zc47 _)] at ht
   exact ⟨w,r,rfl,ht,by omega⟩
theorem zq417 {l : List Ls} (h : l.length ≤ 1048576) : zq1599 l = some (l,()) := by
 unfold zq1599
 rw [zq1463 (zq1488 (by simp [lenL]) (zq989 l) (by unfold lenL; simp; omega)),List.nil_append]
 cases l with
 | nil => exact zq354 _
 | cons a r => rfl
theorem zq924 {l : List Ls} (h : l.length ≤ 1048576) (now : Int) : zq938 l now = some (live l now,()) := by
 unfold zq938
 rw [zq417 h,zq332,zq1004 h now,zq332]
 cases hf : zq657 (overP now) l with
 | none =>
  simp only [zq1252,sumC]
  have : live l now = l := by
   unfold live
   rw [List.filter_eq_self]
   intro x hx
   have := zq661 hf x hx
   rw [zq1255] at this
   simpa using this
  rw [this]
 | some k =>
  obtain ⟨x,hx,hq,hb⟩ := zq662 hf
  have hk := zq660 hf
  simp only [zq1252,sumC]
  rw [decide_eq_false (show ¬ (k : Int) = -1 by omega),zq356,zq1463 (zq747 (by omega) (by omega)),show ((k : Int) + 1) = ((k + 1 : Nat) : Int) by omega]
  have hlk : live (l.take (k + 1)) now = l.take k := by
   unfold live
   have hxe := (zc1.1 hx).2
   rw [zc26 hk,List.filter_append,hxe]
   have h1 : (l.take k).filter (liveP now) = l.take k := by
    rw [List.filter_eq_self]
    intro y hy
    have := hb y hy
    rw [zq1255] at this
    simpa using this
   have h2 : liveP now x = false := by
    rw [zq1255] at hq
    simpa using hq
   rw [h1,List.filter_cons,h2]
   simp
  obtain ⟨w',r',hl,ht,hw⟩ := zq1005 h now FUEL (k + 1) k l (by have : FUEL = 18446744073709551616 := rfl; omega) (by omega) (by omega) rfl (by rw [hlk]) rfl
  rw [hl,zq332]
  have hc : (clrL r' (w' : Int) (⟨(⟨false,0,0⟩ : Ad),(ByteArray.empty),0⟩ : Ls)).length = r'.length := by simp [clrL]; omega
  have hz : (decide ((0 : Int) ≤ (w' : Int)) && decide ((w' : Int) ≤ lenL r')) = true := by simp [lenL]; omega
  have hz2 : (decide ((0 : Int) ≤ (w' : Int)) && decide ((w' : Int) ≤ lenL (clrL r' (w' : Int) (⟨(⟨false,0,0⟩ : Ad),(ByteArray.empty),0⟩ : Ls)))) = true := by
   unfold lenL
   rw [hc]
   exact hz
  rw [zq1463 hz,zq1463 hz2]
  have : subL (clrL r' (w' : Int) (⟨(⟨false,0,0⟩ : Ad),(ByteArray.empty),0⟩ : Ls)) 0 (w' : Int) = r'.take w' := by
   simp [subL,clrL,List.take_append_of_le_length,hw]
  rw [this,ht]
theorem zq1003 (l : List Ls) (now : Int) : (live l now).length ≤ l.length := List.length_filter_le _ _
theorem zq273 {l : List Ls} {now : Int} (h : allC l now = 0) : l.length ≤ 20 := by
 unfold allC at h
 split at h
 ·cases h
 ·omega
def whoP (who : ByteArray) (x : Ls) : Bool := decide (x.who = who)
end Go.Ma
namespace Go.Ma
open Go
def allA (last : Ad) : Nat → Ad → Option (List Ad)
 | 0,_ => none
 | k + 1,a => br (decide (a = last)) (some [a]) ((zq245 a).bind fun y => br y.2.1 ((allA last k y.1).map (a :: ·)) (some [a]))
def zq663 (p : Pf) (as : List Ad) (ls : List Ls) : List Ad → Option (Ad × Bool × Unit)
 | [] => some (⟨false,0,0⟩,false,())
 | a :: r => (zq193 p as ls a).bind fun t => (zq663 p as ls r).bind fun y => some (bif t.1 then y else (a,true,()))
def zq174 (p : Pf) (as : List Ad) (ls : List Ls) : Option (Ad × Bool × Unit) :=
 (zq1332 p).bind fun y => (allA y.1 64 p.ad).bind fun xs => zq663 p as ls xs
end Go.Ma
namespace Go.Ma
open Go Go.RowKit
def zq1285 (k : K) (e : TypeId) (args : List SV) (m : Mem) : Option (Nat × List k.T) :=
 match args with
 | [.row j] => (match m[j]? with | some (.row (.ty k1 l) bt true) => if h : k1 = k then (if bt == e then some (j,castL h l) else none) else none | _ => none)
 | _ => none
def zq1287 (k : K) (srt : List k.T → List k.T) (e : TypeId) (c : Con) : Con :=
 {tr := fun X args m kk => match zq1285 k e args m with
   | some (j,l) => kk (.tup []) (m.set j (.row (.ty k (srt l)) e true))
   | none => c.tr X args m kk
  q := false,law := false,det := false }
theorem zq1286 {k : K} {e : TypeId} {args : List SV} {m : Mem} {j : Nat} {l : List k.T} (h : zq1285 k e args m = some (j,l)) : args = [.row j] ∧ m[j]? = some (.row (.ty k l) e true) := by
 unfold zq1285 at h
 split at h
 ·split at h
  ·rename_i hj
   split at h
   ·rename_i hk
    subst hk
    split at h
    ·rename_i hc
     simp only [beq_iff_eq] at hc
     subst hc
     simp only [zc2,zc11] at h
     obtain ⟨rfl,rfl⟩ := h
     exact ⟨rfl,hj⟩
    ·cases h
   ·cases h
  ·cases h
 ·cases h
theorem zq1288 {P : Program} {f : FuncId} (k : K) (srt : List k.T → List k.T) (e : TypeId)
  (h : ∀ (W : World),Glob P W → ∀ (base : Nat) (w : World) (v : Value) (l : List k.T) (ρ : Nat → Value),Below W.heap.size W w → w.ownsRow base e k.sz v l.length (l.flatMap fun a => denL ρ (k.enc a)) → base ≤ w.heap.size →
   Calls P f #[v] w fun r w' => r = .returned (.tuple #[]) ∧ w'.ownsRow base e k.sz v (srt l).length ((srt l).flatMap fun a => denL ρ (k.enc a)) ∧ w.grownBy w' v.ownBlock) {c : Con} (hc : TrOk P f c) : TrOk P f (zq1287 k srt e c) := by
 refine ⟨fun W hG X args m kk x hk hn => ?_,(fun hq => by cases hq),fun hq => by cases hq⟩
 simp only [zq1287] at hk
 split at hk
 ·rename_i j l ha
  refine ⟨fun _ ρ w hm => ?_⟩
  obtain ⟨rfl,hj⟩ := zq1286 ha
  obtain ⟨_,hc1,ho1⟩ := hm.obj j _ hj
  rw [if_pos rfl] at ho1
  have hd1 : den ρ (.row j) = ρ j := zq1496 hm hj
  have ed : (denL ρ [.row j]).toArray = #[ρ j] := by
   show #[den ρ (.row j)] = _
   rw [hd1]
  rw [ed]
  refine (h W hG W.heap.size w (ρ j) l ρ hm.below ho1 hm.below.size).mono ?_
  rintro r w' ⟨rfl,hown,hgb⟩
  exact ⟨ρ,.tup [],_,rfl,hm.rewritten (k := k) hj hown hgb,Agree.refl _ _,by simp,fun _ => rfl,hk⟩
 ·exact hc.1 W hG X args m kk x hk hn
def zq898 (l : List En) : List En := l.map fun x => { x with num := -7 }
end Go.Ma
