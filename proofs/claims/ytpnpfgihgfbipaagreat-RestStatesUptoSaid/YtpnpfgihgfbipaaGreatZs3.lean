/-
  Parts: MaO MaT Pl Pc Pw Pf Po La Pv Lb He.
-/
import Derived.Test.YtpnpfgihgfbipaaGreatZs2
set_option linter.unusedVariables false
set_option linter.unusedSimpArgs false
open List renaming getElem?_eq_getElem → zc0,getElem?_eq_some_iff → zc1,getD_eq_getElem?_getD → zc3,mem_of_getElem? → zc5,getElem?_append_left → zc6,getElem?_append_right → zc12,getElem?_cons_zero → zc13,getElem?_take → zc14,all_eq_true → zc17,drop_of_length_le → zc18,length_take → zc20,length_cons → zc21,length_append → zc24,take_succ_eq_append_getElem → zc26,mem_cons → zc28,mem_iff_getElem? → zc30,length_nil → zc32,getElem?_cons_succ → zc35,mem_singleton → zc37,getElem?_drop → zc38,pairwise_cons → zc44,append_assoc → zc45
open Option.some renaming injEq → zc2
open Bool renaming and_eq_true → zc4,not_true → zc10,false_eq_true → zc16,not_false → zc19
open Option renaming map_eq_some_iff → zc7,bind_eq_some_iff → zc8
open Prod.mk renaming injEq → zc11
open Nat renaming le_refl → zc46
open Decidable renaming not_not → zc48
noncomputable section
namespace Go.Ma
open Go Go.RowKit
def Obj.isG : Obj → Bool
 | .ghost => true
 | _ => false
def JIn (m : Mem) (cs : List SV) (j : Nat) : Prop:=j ∈ refsL cs ∨ ∃ j' ∈ refsL cs,j ∈ (m.getD j' (.dead none)).refs
def SrcB (m : Mem) (ρ : Nat → Value) (cs : List SV) (us : List Value) : Prop:=∀ u ∈ us,∀ b,b ∈ zq1360 u → ∃ j,JIn m cs j ∧ ∃ ob,m[j]? = some ob ∧ ob.live' = true ∧ ob.isG = false ∧ b ∈ ob.blocks (ρ j)
theorem zq1384 : ∀ x y : List SV,refsL (x ++ y) = refsL x ++ refsL y
 | [],_ => rfl
 | c :: r,y => by simp [refsL,zq1384 r y]
theorem JIn.left {m : Mem} {x y : List SV} {j : Nat} (h : JIn m x j) : JIn m (x ++ y) j:=by
 rcases h with h | ⟨j',h1,h2⟩
 ·exact .inl (by rw [zq1384];exact List.mem_append_left _ h)
 ·exact .inr ⟨j',by rw [zq1384];exact List.mem_append_left _ h1,h2⟩
theorem JIn.right {m : Mem} {x y : List SV} {j : Nat} (h : JIn m y j) : JIn m (x ++ y) j:=by
 rcases h with h | ⟨j',h1,h2⟩
 ·exact .inl (by rw [zq1384];exact List.mem_append_right _ h)
 ·exact .inr ⟨j',by rw [zq1384];exact List.mem_append_right _ h1,h2⟩
theorem SrcB.app {m : Mem} {ρ : Nat → Value} {x y : List SV} {us us' : List Value} (h : SrcB m ρ x us) (h' : SrcB m ρ y us') : SrcB m ρ (x ++ y) (us ++ us'):=fun u hu b hb => by
 rcases List.mem_append.1 hu with hu | hu
 ·obtain ⟨j,h1,h2⟩:=h u hu b hb;exact ⟨j,h1.left,h2⟩
 ·obtain ⟨j,h1,h2⟩:=h' u hu b hb;exact ⟨j,h1.right,h2⟩
def noRef : PS → Bool
 | .ref _ _ => false
 | _ => true
section
variable {W : World} {ρ : Nat → Value} {m : Mem} {w : World} (hm : RelM W ρ m w)
include hm
theorem zq1432 {k : K} {c : SV} {l : List k.T} (h : rdRow m k c = some l) : SrcB m ρ [c] [den ρ c]:=by
 intro u hu b hb
 simp only [zc37] at hu
 subst hu
 unfold rdRow at h
 split at h
 ·rename_i j
  split at h
  ·rename_i k' l' ty own hj
   rw [zq1433 hm hj] at hb
   exact ⟨j,.inl (by simp [refsL,SV.refs]),_,hj,rfl,rfl,zq1363 hb⟩
  ·cases h
 ·rename_i j i
  split at h
  ·rename_i k' ls ty own fr hj
   obtain ⟨vs,hv,_⟩:=hm.obj j _ hj
   refine ⟨j,.inl (by simp [refsL,SV.refs]),_,hj,rfl,rfl,zq1363 ?_⟩
   obtain ⟨_,A,cap,hρ,_⟩:=hm.inn hj i
   have hbv : zq1359 (den ρ (.inn j i)) = some b:=(zq1365 (fun vs e => by rw [hρ] at e;cases e)).1 hb
   simp only [den] at hbv hρ
   rw [hv] at hbv hρ ⊢
   unfold innV at hbv hρ
   simp only at hbv hρ
   split at hbv
   ·rename_i h0
    rw [if_pos h0] at hρ
    rw [zc3] at hbv hρ
    cases hi : vs[i.toNat]? with
    | none => rw [hi] at hbv;simp [zq1481,zq1359] at hbv
    | some x =>
     rw [hi] at hbv hρ
     simp only [Option.getD_some] at hbv hρ
     have hx : zq1481 x = x:=by
      unfold zq1481 at hρ ⊢
      split at hρ
      ·rfl
      ·cases hρ
     rw [hx] at hbv
     simp only [zq1360,List.mem_filterMap]
     exact ⟨x,zc5 hi,hbv⟩
   ·cases hbv
  ·cases h
 ·cases hb
 ·cases h
theorem zq1081 {hk ik : K} (ty ity : TypeId) (bo : Bool) {c : SV} {a : List hk.T × List (List ik.T)} (h : zq1361 m hk ik c = some a) (n : Nat) : ∃ vs,zq0 w ρ n [den ρ c] [.row (n + 1)] [.bag ik a.2 ity (false && bo) false,.row (.nest hk a.1 n) ty false] vs ∧ SrcB m ρ [c] vs:=by
 have gen : ∀ (vb v : Value) (l : List hk.T) (ls : List (List ik.T)),den ρ c = v → zq1481 v = v → (∀ (W' : World) (ρ' : Nat → Value),ObjIs W' w ρ' vb (.bag ik ls ity false false)) → RowIs w v l.length (hk.sz + 1) (zq1067 ρ hk vb l 0) →
   ∃ vs,zq0 w ρ n [den ρ c] [.row (n + 1)] [.bag ik ls ity (false && bo) false,.row (.nest hk l n) ty false] vs ∧ vs = [vb,v]:=by
  intro vb v l ls hc hs hb hr
  refine ⟨[vb,v],⟨rfl,fun ρ' hg => ?_,fun W' ρ' hg i o u hi hu => ?_,by simp [ltL,SV.lt],fun o ho => ?_⟩,rfl⟩
  ·have:=hg.tail.head
   simp only [denL,den,this,hs,hc]
  ·have h0:=hg.head
   have h1:=hg.tail.head
   match i with
   | 0 =>
    simp only [zc13,zc2] at hi hu
    subst hi hu
    exact ⟨hb W' ρ',rfl⟩
   | 1 =>
    simp only [zc35,zc13,zc2] at hi hu
    subst hi hu
    refine ⟨⟨by simp [C.sz],fun u hu => ?_,?_⟩,rfl⟩
    ·exact zq1077 _ _ _ _ _ u hu
    ·rw [if_neg (by simp)]
     simp only [C.den,h0,C.n,C.sz]
     rw [zq1070 ρ ρ']
     exact hr
   | i + 2 => simp at hi
  ·simp only [zc28,List.not_mem_nil,or_false] at ho
   rcases ho with rfl | rfl
   ·rfl
   ·simp [Obj.lt,C.lt]
 unfold zq1361 at h
 split at h
 ·rename_i j
  split at h
  ·rename_i k l jb ty' own hj
   split at h
   ·rename_i k' ls ity' own' fr' hjb
    split at h
    ·rename_i hh
     obtain ⟨h1,h2⟩:=hh
     subst h1 h2
     injection h with h
     subst h
     obtain ⟨_,A,cap,hρ,_⟩:=RelM.row hm hj
     obtain ⟨vs,g1,rfl⟩:=gen (ρ jb) (ρ j) l ls (zq1433 hm hj) (by rw [hρ];rfl) (fun W' ρ' => by
      obtain ⟨vs,g1,g2,g3,g4,_⟩:=(hm.obj jb _ hjb).shut
      refine ⟨vs,g1,g2,fun i x l' hi hl => ?_,(fun h => by cases h),fun h => by cases h⟩
      have e : (C.ty k' l').den ρ' = (C.ty k' l').den ρ:=by simp only [C.den];congr 1;funext a;exact zq547 ρ ρ' k' a
      rw [e]
      exact g3 i x l' hi hl) (hm.rowIs hj)
     refine ⟨_,g1,fun u hu b hb => ?_⟩
     simp only [zc28,List.not_mem_nil,or_false] at hu
     rcases hu with rfl | rfl
     ·exact ⟨jb,.inr ⟨j,by simp [refsL,SV.refs],by rw [zc3,hj];simp [Obj.refs]⟩,_,hjb,rfl,rfl,zq1363 hb⟩
     ·exact ⟨j,.inl (by simp [refsL,SV.refs]),_,hj,rfl,rfl,zq1363 hb⟩
    ·cases h
   ·cases h
  ·cases h
 ·injection h with h
  subst h
  obtain ⟨vs,g1,rfl⟩:=gen (.tuple #[]) (.slice none 0 0) [] [] rfl rfl (fun W' ρ' => ⟨[],rfl,rfl,(fun i x l' h => by simp at h),(fun h => by cases h),fun h => by cases h⟩) ⟨by simp [zq1067],none,0,rfl,zc46 _,by unfold maxLen;omega,fun _ => rfl,fun _ h => by cases h⟩
  refine ⟨_,g1,fun u hu b hb => ?_⟩
  simp only [zc28,List.not_mem_nil,or_false] at hu
  rcases hu with rfl | rfl <;> simp [zq1360,zq1359] at hb
 ·cases h
theorem zq537 : ∀ (l : List Seg) (cs : List SV) (x : SegsT l) (n : Nat),zq535 m l cs = some x → ∃ vs,zq0 w ρ n (denL ρ cs) (zq584 false l x n).1 (zq584 false l x n).2 vs ∧ SrcB m ρ cs vs
 | [],[],x,n,_ => ⟨[],zq0.nil w ρ n,fun u hu => (by cases hu)⟩
 | [],_ :: _,x,n,h => by simp [zq535] at h
 | .fl k :: r,cs,x,n,h => by
  simp only [zq535] at h
  split at h
  ·rename_i a b ha hb
   injection h with h
   subst h
   obtain ⟨h1,_⟩:=zq538 k _ a ha
   obtain ⟨vs,hv,hs⟩:=zq537 r _ b n hb
   have h0 : zq0 w ρ n (denL ρ (cs.take k.sz)) (k.enc a) [] []:=⟨rfl,fun ρ' _ => by rw [h1];exact zq547 ρ ρ' k a,fun _ _ _ i o v h => by simp at h,zq586 k a _,fun o h => by cases h⟩
   refine ⟨vs,?_,?_⟩
   ·have this:=h0.app hv
    have e : denL ρ (cs.take k.sz) ++ denL ρ (cs.drop k.sz) = denL ρ cs:=by
     rw [zq549,zq549,← List.map_append,List.take_append_drop,← zq549]
    rw [e] at this
    exact this
   ·intro u hu b hb
    obtain ⟨j,q1,q2⟩:=hs u hu b hb
    have:=q1.right (x:=cs.take k.sz)
    rw [List.take_append_drop] at this
    exact ⟨j,this,q2⟩
  ·cases h
 | .row _ _ :: _,[],x,n,h => by simp [zq535] at h
 | .row k ty :: r,c :: cs,x,n,h => by
  simp only [zq535] at h
  split at h
  ·rename_i a b ha hb
   injection h with h
   subst h
   obtain ⟨hrow,A,N,cap,hs⟩:=zq1362 hm ha
   obtain ⟨vs,hv,hsr⟩:=zq537 r _ b (n + 1) hb
   have h0 : zq0 w ρ n [den ρ c] [.row n] [.row (.ty k a) ty false] [den ρ c]:=by
    refine ⟨rfl,fun ρ' hg => by simp [denL,den,hg.head,hs,zq1481],fun W' ρ' hg i o v hi hv => ?_,by simp [ltL,SV.lt],fun o ho => by simp at ho;subst ho;rfl⟩
    cases i with
    | zero =>
     simp only [zc13,zc2] at hi hv
     subst hi hv
     exact ⟨zq1429 ty hrow,rfl⟩
    | succ i => simp at hi
   exact ⟨den ρ c :: vs,h0.app hv,(zq1432 hm ha).app (x:=[c]) (y:=cs) hsr⟩
  ·cases h
 | .nest _ _ _ _ _ :: _,[],x,n,h => by simp [zq535] at h
 | .nest hk ik ty ity bo :: r,c :: cs,x,n,h => by
  simp only [zq535] at h
  split at h
  ·rename_i a b ha hb
   injection h with h
   subst h
   obtain ⟨vs0,h0,hs0⟩:=zq1081 hm ty ity bo ha n
   obtain ⟨vs,hv,hs⟩:=zq537 r _ b (n + 2) hb
   exact ⟨vs0 ++ vs,h0.app hv,hs0.app (x:=[c]) (y:=cs) hs⟩
  ·cases h
theorem zq534 (p : PS) (hp : noRef p = true) (v : SV) (x : p.T) (n : Nat) (h : decP m p v = some x) : ∃ vs,zq0 w ρ n [den ρ v] [(encP false p x n).1] (encP false p x n).2 vs ∧ SrcB m ρ [v] vs:=by
 cases p with
 | one s =>
  cases s with
  | fl k =>
   obtain ⟨vs,hv⟩:=zq533 hm (.one (.fl k)) v x n h
   refine ⟨vs,hv,fun u hu => ?_⟩
   have:=hv.len
   have h0 : (encP false (PS.one (.fl k)) x n).2 = []:=rfl
   rw [h0] at this
   rw [List.eq_nil_of_length_eq_zero this] at hu
   cases hu
  | row k ty =>
   have hx : rdRow m k v = some x:=h
   obtain ⟨hrow,A,N,cap,hs⟩:=zq1362 hm hx
   refine ⟨[den ρ v],⟨rfl,fun ρ' hg => by simp [encP,zq583,denL,den,hg.head,hs,zq1481],fun W' ρ' hg i o u hi hv => ?_,by simp [encP,zq583,ltL,SV.lt],fun o ho => ?_⟩,zq1432 hm hx⟩
   rotate_left
   ·have ho : o ∈ [Obj.row (.ty k x) ty false]:=ho
    simp only [zc37] at ho
    subst ho
    rfl
   have hi : [Obj.row (.ty k x) ty false][i]? = some o:=hi
   cases i with
   | zero =>
    simp only [zc13,zc2] at hi hv
    subst hi hv
    exact ⟨zq1429 ty hrow,rfl⟩
   | succ i => simp at hi
  | nest hk ik ty ity bo =>
   have hx : zq1361 m hk ik v = some x:=h
   exact zq1081 hm ty ity bo hx n
 | agg l =>
  have hx : v.parts.bind (zq535 m l) = some x:=h
  obtain ⟨cs,hp,hx⟩:=zc8.1 hx
  unfold SV.parts at hp
  split at hp
  ·injection hp with hp
   subst hp
   obtain ⟨vs,hv,hs⟩:=zq537 hm _ _ _ n hx
   refine ⟨vs,⟨hv.len,fun ρ' hg => ?_,hv.obj,?_,hv.lt.2⟩,fun u hu b hb => ?_⟩
   ·have:=hv.den ρ' hg
    simp only [encP,denL,den,this]
   ·simpa [encP,ltL,SV.lt] using hv.lt.1
   ·obtain ⟨j,q1,q2⟩:=hs u hu b hb
    exact ⟨j,by simpa [JIn,refsL,SV.refs] using q1,q2⟩
  ·cases hp
 | ref l ty => cases hp
theorem zq524 : ∀ (ps : List PS) (vs : List SV) (x : PsT ps) (n : Nat),ps.all noRef = true → decA m ps vs = some x → ∃ us,zq0 w ρ n (denL ρ vs) (encA false ps x n).1 (encA false ps x n).2 us ∧ SrcB m ρ vs us
 | [],[],x,n,_,_ => ⟨[],zq0.nil w ρ n,fun u hu => (by cases hu)⟩
 | [],_ :: _,x,n,_,h => by simp [decA] at h
 | _ :: _,[],x,n,_,h => by simp [decA] at h
 | p :: r,v :: vs,x,n,hp,h => by
  simp only [List.all_cons,zc4] at hp
  simp only [decA] at h
  split at h
  ·rename_i a b ha hb
   injection h with h
   subst h
   obtain ⟨us,hu,hs⟩:=zq534 hm p hp.1 v a n ha
   obtain ⟨us',hu',hs'⟩:=zq524 r vs b (n + (encP false p a n).2.length) hp.2 hb
   exact ⟨us ++ us',hu.app hu',hs.app (x:=[v]) (y:=vs) hs'⟩
  ·cases h
end
theorem RelM.pushR {W : World} {ρ : Nat → Value} {m : Mem} {w w' : World} (h : RelM W ρ m w) (hb : Below w.heap.size w w') {os : Mem} {us : List Value} (hlen : us.length = os.length)
  (ho : ∀ (i : Nat) (o : Obj) (v : Value),os[i]? = some o → us[i]? = some v → (∀ ρ',Gives ρ' m.length us → ObjIs W w' ρ' v o) ∧ o.mutB = false ∧ o.lt (m.length + os.length) = true ∧ ∀ (q : Nat) (oq : Obj),m[q]? = some oq → oq.mutB = true → ∀ b,b ∈ zq1716 (ρ q) → b ∉ o.blocks v) :
  ∃ ρ',Agree m.length ρ ρ' ∧ Gives ρ' m.length us ∧ RelM W ρ' (m ++ os) w':=by
 obtain ⟨ρ',hρ'⟩ : ∃ ρ' : Nat → Value,ρ' = fun j => if j < m.length then ρ j else us.getD (j - m.length) Go.undef:=⟨_,rfl⟩
 have ha : Agree m.length ρ ρ':=fun j hj => by rw [hρ'];simp [hj]
 have hg : Gives ρ' m.length us:=fun i v hi => by
  rw [hρ']
  show (if m.length + i < m.length then _ else us.getD (m.length + i - m.length) Go.undef) = v
  rw [if_neg (by omega),show m.length + i - m.length = i by omega,zc3,hi]
  rfl
 have hk:=h.later hb
 have key : ∀ {k : Nat} {o : Obj},(m ++ os)[k]? = some o → (k < m.length ∧ m[k]? = some o) ∨ (∃ i v,k = m.length + i ∧ os[i]? = some o ∧ us[i]? = some v ∧ ρ' k = v):=by
  intro k o hk
  by_cases hlt : k < m.length
  ·rw [zc6 hlt] at hk;exact .inl ⟨hlt,hk⟩
  ·rw [zc12 (by omega)] at hk
   have hl:=(zc1.1 hk).1
   have hv : us[k - m.length]? = some (us[k - m.length]'(by rw [hlen];exact hl)):=zc0 _
   have:=hg _ _ hv
   rw [show m.length + (k - m.length) = k by omega] at this
   exact .inr ⟨k - m.length,_,by omega,hk,hv,this⟩
 refine ⟨ρ',ha,hg,hk.below,fun j o hj => ?_,fun i j o1 o2 hij hi hj hmu hdd b hbi hbj => ?_,fun j o hj => ?_⟩
 ·rcases key hj with ⟨hlt,hj⟩ | ⟨i,v,rfl,hi,hv,hr⟩
  ·rw [ha j hlt]
   exact (hk.obj j o hj).agree ha (h.lt j o hj)
  ·rw [hr]
   exact (ho i o v hi hv).1 ρ' hg
 ·rcases key hi with ⟨hil,hi⟩ | ⟨i',v,rfl,hi,hv,hr⟩
  ·rcases key hj with ⟨hjl,hj⟩ | ⟨j',v',rfl,hj,hv',hr'⟩
   ·rw [ha i hil] at hbi
    rw [ha j hjl] at hbj
    exact h.sep i j o1 o2 hij hi hj hmu hdd b hbi hbj
   ·rw [ha i hil] at hbi
    rw [hr'] at hbj
    exact (ho j' o2 v' hj hv').2.2.2 i o1 hi hmu b hbi hbj
  ·rw [(ho i' o1 v hi hv).2.1] at hmu
   cases hmu
 ·rcases key hj with ⟨hlt,hj⟩ | ⟨i,v,rfl,hi,hv,hr⟩
  ·exact Obj.lt_mono (by simp) o (h.lt j o hj)
  ·rw [zc24];exact (ho i o v hi hv).2.2.1
def roJ (m : Mem) (cs : List SV) : Bool:=(refsL cs ++ (refsL cs).flatMap fun j => (m.getD j (.dead none)).refs).all fun j => !(m.getD j (.dead none)).mutB
def zq660 (n : Nat) (m : Mem) : Bool:=match m[n]? with | some .ghost => true | _ => false
def encRL (ps : List PS) (y : PsT ps) (n : Nat) : SV:=bif ps.length == 1 then ((encA false ps y n).1).headD .any else .tup (encA false ps y n).1
def resL1 (ps : List PS) (v : SV) (m : Mem) : Option (PsT ps):=bif ps.length == 1 then decA m ps [v] else (tupOf v).bind (decA m ps)
def resRL (ps : List PS) (n0 : Nat) (v : SV) (m : Mem) : Option (PsT ps):=bif zq660 n0 m then resL1 ps v m else none
def zq865 (ps rs : List PS) (t : PsT ps → Option (PsT rs)) : Tr:=fun _ args m k =>
 (decA m ps args).bind fun x => req (roJ m args) ((t x).bind fun y => k (encRL rs y m.length) (m ++ (encA false rs y m.length).2))
def lcon (ps rs : List PS) (t : PsT ps → Option (PsT rs)) : Con:={ tr:=zq865 ps rs t,q:=false,law:=true }
theorem roJ_ok {m : Mem} {cs : List SV} (h : roJ m cs = true) {j : Nat} (hj : JIn m cs j) : (m.getD j (.dead none)).mutB = false:=by
 have:=zc17.1 h j (by
  rcases hj with hj | ⟨j',h1,h2⟩
  ·exact List.mem_append_left _ hj
  ·exact List.mem_append_right _ (List.mem_flatMap.2 ⟨j',h1,h2⟩))
 simpa using this
theorem zq1403 {W : World} {ρ : Nat → Value} {m : Mem} {w : World} (hm : RelM W ρ m w) {rs : List PS} (hn : rs.all noRef = true) {v : SV} {y : PsT rs} (h : resL1 rs v m = some y) (n : Nat) :
  ∃ vals us cs,zq0 w ρ n vals (encA false rs y n).1 (encA false rs y n).2 us ∧ SrcB m ρ cs us ∧ den ρ v = (if rs.length = 1 then vals.headD Go.undef else .tuple vals.toArray):=by
 unfold resL1 at h
 by_cases h1 : rs.length = 1
 ·rw [show (rs.length == 1) = true by simpa using h1] at h
  simp only [cond_true] at h
  obtain ⟨us,hu,hs⟩:=zq524 hm rs [v] y n hn h
  exact ⟨_,us,_,hu,hs,by rw [if_pos h1];rfl⟩
 ·rw [show (rs.length == 1) = false by simpa using h1] at h
  simp only [cond_false] at h
  obtain ⟨l,hl,ha⟩:=zc8.1 h
  unfold tupOf at hl
  split at hl
  ·injection hl with hl
   subst hl
   obtain ⟨us,hu,hs⟩:=zq524 hm rs _ y n hn ha
   exact ⟨_,us,_,hu,hs,by rw [if_neg h1];rfl⟩
  ·cases hl
theorem zq580 {rs : List PS} {y : PsT rs} {n : Nat} {ρ' : Nat → Value} {vals : List Value} {v : Value} (h : denL ρ' (encA false rs y n).1 = vals) (hv : v = if rs.length = 1 then vals.headD Go.undef else .tuple vals.toArray) : den ρ' (encRL rs y n) = v:=by
 have hlen:=zq575 false rs y n
 unfold encRL
 rw [hv]
 by_cases h1 : rs.length = 1
 ·rw [if_pos h1,show (rs.length == 1) = true by simpa using h1]
  simp only [cond_true]
  rw [h1] at hlen
  match hx : (encA false rs y n).1,hlen with
  | [c],_ =>
   rw [hx] at h
   rw [← h]
   rfl
 ·rw [if_neg h1,show (rs.length == 1) = false by simpa using h1]
  simp only [cond_false,den,h]
theorem zq664 (n : Nat) (vs : List Value) : Gives (fun j => vs.getD (j - n) Go.undef) n vs:=fun i v hi => by
 show vs.getD (n + i - n) Go.undef = v
 rw [show n + i - n = i by omega,zc3,hi]
 rfl
theorem zq866 {P : Program} {E : Env} (hE : EnvOk P E) {f : FuncId} {fn : Func} (hf : P.funcs[f]? = some fn) (hl : ∀ c,fn.body = some c → zq7 P E c) (ps rs : List PS) (hps : ps.all noRef = true) (hrs : rs.all noRef = true) (t : PsT ps → Option (PsT rs))
  (h : ∀ x,ixF E fn (encA false ps x 0).1 ((encA false ps x 0).2 ++ [.ghost]) (resRL rs (encA false ps x 0).2.length) = t x) : TrOk P f (lcon ps rs t):=by
 have main : ∀ {W : World},Glob P W → ∀ {args : List SV} {m : Mem} {x : PsT ps} {y : PsT rs},decA m ps args = some x → roJ m args = true → t x = some y → ∀ ρ w,RelM W ρ m w →
   Calls P f (denL ρ args).toArray w fun e w' => ∃ ρ',e = .returned (den ρ' (encRL rs y m.length)) ∧ RelM W ρ' (m ++ (encA false rs y m.length).2) w' ∧ Agree m.length ρ ρ' ∧ (encRL rs y m.length).lt (m ++ (encA false rs y m.length).2).length = true:=by
  intro W hG args m x y hx hro hy ρ w hm
  obtain ⟨us,hu,hsrc⟩:=zq524 hm ps args x 0 hps hx
  let B : List Nat:=(List.range m.length).flatMap fun i => if (m.getD i (.dead none)).mutB then zq1716 (ρ i) else []
  let gv : Value:=.tuple (B.map fun b => Value.pointer (some ⟨b,0,none⟩)).toArray
  have hB : ∀ b,b ∈ zq1716 gv ↔ b ∈ B:=fun b => by simp [gv,zq1716,zq1715,List.filterMap_map,Function.comp_def]
  have hBm : ∀ b,b ∈ B ↔ ∃ (i : Nat) (o : Obj),m[i]? = some o ∧ o.mutB = true ∧ b ∈ zq1716 (ρ i):=fun b => by
   simp only [B,List.mem_flatMap,List.mem_range]
   constructor
   ·rintro ⟨i,hi,hb⟩
    split at hb
    ·rename_i hmu
     rw [zc3,zc0 hi] at hmu
     exact ⟨i,_,zc0 hi,hmu,hb⟩
    ·cases hb
   ·rintro ⟨i,o,hi,hmu,hb⟩
    refine ⟨i,(zc1.1 hi).1,?_⟩
    rw [zc3,hi]
    simp only [Option.getD_some,hmu,if_true]
    exact hb
  have hrel0:=hu.rel
  have hnm : ∀ (i : Nat) (oi : Obj),(encA false ps x 0).2[i]? = some oi → oi.mutB = false ∧ ∃ v,us[i]? = some v ∧ zq1065 us i = v:=fun i oi hi => by
   obtain ⟨v,hv⟩ : ∃ v,us[i]? = some v:=by
    have hl:=(zc1.1 hi).1
    exact ⟨us[i]'(by rw [hu.len];exact hl),zc0 _⟩
   exact ⟨(hu.obj w (zq1065 us) (zq665 us) i oi v hi hv).2,v,hv,by simp [zq1065,zc3,hv]⟩
  have hrel:=hrel0.pushG (o:=.ghost) (v:=gv) (Below.refl _ _) (fun b hb => by
    obtain ⟨i,o,hi,hmu,hb⟩:=(hBm b).1 ((hB b).1 hb)
    exact ObjIs.lt_heap (by rw [zq434 hmu];exact hb) (zq1064 hmu) (hm.obj i o hi)) rfl (fun i oi hi hmu => by
    rw [(hnm i oi hi).1] at hmu;cases hmu) (fun _ i oi hi hlv b hb hb2 => by
    obtain ⟨q1,v,hv,hn⟩:=hnm i oi hi
    rw [hn] at hb2
    have hb2 : b ∈ zq1360 v:=by simpa [Obj.blocks,q1] using hb2
    obtain ⟨j,hj,ob,hmj,hol,_,hbj⟩:=hsrc v (zc5 hv) b hb2
    obtain ⟨i',o',hi',hmu',hb'⟩:=(hBm b).1 ((hB b).1 hb)
    have hnmu:=roJ_ok hro hj
    rw [zc3,hmj] at hnmu
    exact hm.sep i' j o' ob (fun e => by subst e;rw [hi'] at hmj;injection hmj with hmj;subst hmj;rw [show (some o').getD (Obj.dead none) = o' from rfl,hmu'] at hnmu;cases hnmu) hi' hmj hmu' (zq1002.2 hol) b hb' hbj)
  have hgv : Gives (upd (zq1065 us) (encA false ps x 0).2.length gv) 0 us:=fun i v hi => by
   have hil : i < us.length:=(zc1.1 hi).1
   rw [zq1712 (zq1065 us) _ gv (0 + i) (by rw [← hu.len];omega)]
   exact zq665 us i v hi
  have hden:=hu.den _ hgv
  have hcall:=zq468 (m:=(encA false ps x 0).2 ++ [.ghost]) (W:=w) ⟨hE,hG.mono hm.below⟩ hf hl (zq1030 (by simp) _ hu.lt.1) ((h x).trans hy) hrel
  rw [hden] at hcall
  refine hcall.mono ?_
  rintro e w' ⟨ρc,r,m',rfl,hm',hag,_,_,hres⟩
  unfold resRL at hres
  cases hga : zq660 (encA false ps x 0).2.length m'
  ·rw [hga] at hres;cases hres
  rw [hga] at hres
  have hgo : m'[(encA false ps x 0).2.length]? = some .ghost:=by
   unfold zq660 at hga
   split at hga
   ·assumption
   ·cases hga
  obtain ⟨vals,vs,cs,hr,hsr,hv⟩:=zq1403 hm' hrs hres m.length
  have hρg : ρc (encA false ps x 0).2.length = gv:=by rw [hag _ (by simp),zq1714]
  obtain ⟨ρ',hag',hg,hpush⟩:=hm.pushR hm'.below hr.len (fun i o v hi hv => by
   have hx:=fun ρ' hg => hr.obj W ρ' hg i o v hi hv
   refine ⟨fun ρ' hg => (hx ρ' hg).1,?_,hr.lt.2 o (zc5 hi),fun q oq hq hmu b hb hb2 => ?_⟩
   ·exact (hx _ (zq664 m.length vs)).2
   ·have hmo : o.mutB = false:=(hx _ (zq664 m.length vs)).2
    have hb2 : b ∈ zq1360 v:=by simpa [Obj.blocks,hmo] using hb2
    obtain ⟨j,_,ob,hmj,hol,hgn,hbj⟩:=hsr v (zc5 hv) b hb2
    refine hm'.sep _ j .ghost ob (fun e => ?_) hgo hmj rfl (zq1002.2 hol) b (by rw [hρg];exact (hB b).2 ((hBm b).2 ⟨q,oq,hq,hmu,hb⟩)) hbj
    rw [← e,hgo] at hmj
    injection hmj with hmj
    subst hmj
    cases hgn)
  refine ⟨ρ',?_,hpush,hag',?_⟩
  ·rw [zq580 (hr.den ρ' hg) hv]
  ·have hlt:=hr.lt.1
   rw [zc24]
   unfold encRL
   by_cases h1 : rs.length = 1
   ·rw [show (rs.length == 1) = true by simpa using h1]
    simp only [cond_true]
    have hlen:=zq575 false rs y m.length
    rw [h1] at hlen
    match hx : (encA false rs y m.length).1,hlen with
    | [c],_ =>
     rw [hx] at hlt
     simpa [ltL] using hlt
   ·rw [show (rs.length == 1) = false by simpa using h1]
    simpa only [cond_false,SV.lt] using hlt
 refine ⟨fun W hG X args m k x hk hany => ⟨fun hlt ρ w hm => ?_⟩,(fun hq => by cases hq),fun _ X args m k x hk => ?_⟩
 ·simp only [lcon,zq865] at hk
  obtain ⟨a,ha,hk⟩:=zc8.1 hk
  obtain ⟨hro,hk⟩:=zq1399 hk
  obtain ⟨y,hy,hk⟩:=zc8.1 hk
  refine (main hG ha hro hy ρ w hm).mono ?_
  rintro e w' ⟨ρ',rfl,hm',hag,hl'⟩
  exact ⟨ρ',_,_,rfl,hm',hag,by simp,fun _ => hl',hk⟩
 ·simp only [lcon,zq865] at hk ⊢
  obtain ⟨a,ha,hk⟩:=zc8.1 hk
  obtain ⟨hro,hk⟩:=zq1399 hk
  obtain ⟨y,hy,hk⟩:=zc8.1 hk
  exact ⟨_,_,by rw [ha,Option.bind_some,hro];simp only [req];rw [hy,Option.bind_some],hk,fun _ => ⟨_,rfl⟩⟩
end Go.Ma
namespace Go.Ma
open Go Go.RowKit
def takeA (args : List SV) (m : Mem) : Option (Bool × List SV × Mem) :=
 match args with
 | .inn jb i :: r => (takeM m jb i).map fun m' => (decide (0 ≤ i),.row (m.length + 1) :: r,m')
 | _ => none
def zq1683 (g : Con) : Con :=
 {tr:=fun X args m k => match takeA args m with
   | some (c,args',m') => req c (g.tr X args' m' k)
   | none => g.tr X args m k
  q:=false,law:=false,det:=g.det }
theorem zq1684 {P : Program} {f : FuncId} {g : Con} (h : TrOk P f g) : TrOk P f (zq1683 g):=by
 refine ⟨fun W hG X args m k x hk hany => ⟨fun hlt ρ w hm => ?_⟩,(fun hq => by cases hq),fun hd X args m k x hk => ?_⟩
 ·simp only [zq1683] at hk
  cases ht : takeA args m with
  | none =>
   rw [ht] at hk
   exact (h.1 W hG X args m k x hk hany).call hlt ρ w hm
  | some z =>
   obtain ⟨c,args',m'⟩:=z
   rw [ht] at hk
   simp only at hk
   obtain ⟨hc,hk2⟩:=zq1399 hk
   clear hk
   unfold takeA at ht
   split at ht
   ·rename_i jb i r
    obtain ⟨m2,hm2,he⟩:=zc7.1 ht
    simp only [zc11] at he
    obtain ⟨rfl,rfl,rfl⟩:=he
    obtain ⟨ρ1,h1,h2,h3,h4⟩:=zq1687 hm (by simpa using hc) hm2
    simp only [ltL,zc4] at hlt
    have hcall:=(h.1 W hG X _ m2 k x hk2 (by simpa [SV.isAny] using hany)).call (by
     simp only [ltL,zc4,SV.lt,decide_eq_true_eq]
     exact ⟨by omega,zq1030 (by omega) r hlt.2⟩) ρ1 w h1
    have hden : denL ρ1 (.row (m.length + 1) :: r) = denL ρ (.inn jb i :: r):=by
     simp only [denL]
     rw [h4,zq546 h2 r hlt.2]
    rw [hden] at hcall
    refine hcall.mono ?_
    rintro e w' ⟨ρ',r',m',rfl,hm',hag,hle,hrl,hk'⟩
    exact ⟨ρ',r',m',rfl,hm',h2.trans hag (by omega),by omega,hrl,hk'⟩
   ·cases ht
 ·simp only [zq1683] at hk ⊢
  cases ht : takeA args m with
  | none =>
   rw [ht] at hk
   obtain ⟨r,m',h1,h2,_⟩:=h.2.2 hd X args m k x hk
   exact ⟨r,m',h1,h2,fun hl => by cases hl⟩
  | some z =>
   obtain ⟨c,args',m'⟩:=z
   rw [ht] at hk
   simp only at hk ⊢
   obtain ⟨hc,hk⟩:=zq1399 hk
   obtain ⟨r,m2,h1,h2,_⟩:=h.2.2 hd X args' m' k x hk
   exact ⟨r,m2,by rw [hc];exact h1,h2,fun hl => by cases hl⟩
def delL {α : Type} (l : List α) (a b : Int) : List α:=l.take a.toNat ++ l.drop b.toNat
def zq539 (k : K) (e : TypeId) (args : List SV) (m : Mem) : Option (Nat × List k.T × Int × Int) :=
 match args with
 | [.row j,.i .i64 a,.i .i64 b] => (match m[j]? with | some (.row (.ty k1 l) bt true) => if h : k1 = k then (if bt == e then some (j,castL h l,a,b) else none) else none | _ => none)
 | _ => none
def zq541 (k : K) (e : TypeId) : Con :=
 {tr:=fun _ args m kk => match zq539 k e args m with
   | some (j,l,a,b) => req (decide (0 ≤ a) && decide (a ≤ b) && decide (b ≤ lenL l)) (kk (.row m.length) (m.set j (.dead none) ++ [.row (.ty k (delL l a b)) e true]))
   | none => none
  q:=false,law:=false,det:=true }
theorem zq540 {k : K} {e : TypeId} {args : List SV} {m : Mem} {j : Nat} {l : List k.T} {a b : Int} (h : zq539 k e args m = some (j,l,a,b)) : args = [.row j,.i .i64 a,.i .i64 b] ∧ m[j]? = some (.row (.ty k l) e true):=by
 unfold zq539 at h
 split at h
 ·split at h
  ·rename_i hj
   split at h
   ·rename_i hk
    subst hk
    split at h
    ·rename_i hb
     simp only [beq_iff_eq] at hb
     subst hb
     simp only [zc2,zc11] at h
     obtain ⟨rfl,rfl,rfl,rfl⟩:=h
     exact ⟨rfl,hj⟩
    ·cases h
   ·cases h
  ·cases h
 ·cases h
theorem del_ok {P : Program} {f : FuncId} (k : K) (e : TypeId)
  (h : ∀ (base : Nat) (w : World) (v : Value) (n i j : Nat) (cs : List Value),w.ownsRow base e k.sz v n cs → (∀ x ∈ cs,oneC x = true) → base ≤ w.heap.size → i ≤ j → j ≤ n →
   Calls P f #[v,.int .i64 (i : Int),.int .i64 (j : Int)] w fun r w' => ∃ v',r = .returned v' ∧ w'.ownsRow base e k.sz v' (n - (j - i)) (cs.take (i * k.sz) ++ cs.drop (j * k.sz)) ∧ w.grownBy w' v.ownBlock ∧ (∀ b,v'.ownBlock = some b → v.ownBlock = some b ∨ w.heap.size ≤ b)) : TrOk P f (zq541 k e):=by
 have inv : ∀ {X : Type} {args : List SV} {m : Mem} {kk : SV → Mem → Option X} {x : X},(zq541 k e).tr X args m kk = some x → ∃ (j : Nat) (l : List k.T) (a b : Int),zq539 k e args m = some (j,l,a,b) ∧ 0 ≤ a ∧ a ≤ b ∧ b ≤ lenL l ∧ kk (.row m.length) (m.set j (.dead none) ++ [.row (.ty k (delL l a b)) e true]) = some x:=by
  intro X args m kk x hk
  simp only [zq541] at hk
  split at hk
  ·rename_i j l a b ha
   obtain ⟨h1,h2⟩:=zq1399 hk
   simp only [zc4,decide_eq_true_eq] at h1
   exact ⟨j,l,a,b,ha,h1.1.1,h1.1.2,h1.2,h2⟩
  ·cases hk
 refine ⟨fun W _ X args m kk x hk _ => ⟨fun _ ρ w hm => ?_⟩,(fun hq => by cases hq),fun _ X args m kk x hk => ?_⟩
 ·obtain ⟨j,l,a,b,ha,h0,hab,hbl,hk2⟩:=inv hk
  clear hk
  obtain ⟨rfl,hj⟩:=zq540 ha
  obtain ⟨_,hc1,ho1⟩:=hm.obj j _ hj
  rw [if_pos rfl] at ho1
  have hd1 : den ρ (.row j) = ρ j:=zq1433 hm hj
  have e1 : ((a.toNat : Nat) : Int) = a:=Int.toNat_of_nonneg h0
  have e2 : ((b.toNat : Nat) : Int) = b:=Int.toNat_of_nonneg (by omega)
  have hbn : b.toNat ≤ l.length:=by unfold lenL at hbl;omega
  have:=h W.heap.size w (ρ j) l.length a.toNat b.toNat _ ho1 hc1 hm.below.size (by omega) hbn
  rw [e1,e2] at this
  have ed : (denL ρ [.row j,.i .i64 a,.i .i64 b]).toArray = #[ρ j,.int .i64 a,.int .i64 b]:=by
   show #[den ρ (.row j),.int .i64 a,.int .i64 b] = _
   rw [hd1]
  rw [ed]
  refine this.mono ?_
  rintro r w' ⟨v',rfl,hown,hgb,hblk⟩
  have hcells : (C.ty k l).den ρ = l.flatMap fun a => denL ρ (k.enc a):=rfl
  rw [hcells] at hown
  have hfl : (l.flatMap fun a => denL ρ (k.enc a)).take (a.toNat * k.sz) ++ (l.flatMap fun a => denL ρ (k.enc a)).drop (b.toNat * k.sz) = (delL l a b).flatMap fun a => denL ρ (k.enc a):=by
   unfold delL
   rw [← zq632,← zq624,List.flatMap_append]
  rw [hfl] at hown
  have hlen : (delL l a b).length = l.length - (b.toNat - a.toNat):=by unfold delL;simp;omega
  rw [← hlen] at hown
  obtain ⟨hm',hv⟩:=hm.replaced hj (l:=delL l a b) hown hgb hblk
  exact ⟨upd ρ m.length v',.row m.length,_,congrArg Ending.returned hv,hm',zq1712 _ _ _,by simp,fun _ => by simp [SV.lt],hk2⟩
 ·obtain ⟨j,l,a,b,ha,h0,hab,hbl,hk⟩:=inv hk
  refine ⟨.row m.length,_,?_,hk,fun hl => by cases hl⟩
  simp only [zq541,ha]
  rw [show (decide (0 ≤ a) && decide (a ≤ b) && decide (b ≤ lenL l)) = true by simp [h0,hab,hbl]]
  rfl
def zq1194 (m : Mem) (hk ik : K) (e ity : TypeId) (j : Nat) : Option (List hk.T × List (List ik.T) × Nat) :=
 match m[j]? with
 | some (.row (.nest hk' l jb) ty true) =>
  (match m[jb]? with
  | some (.bag ik' ls ity' true _) => if h : hk' = hk ∧ ik' = ik then (if ty == e && ity' == ity then some (castL h.1 l,zq469 h.2 ls,jb) else none) else none
  | _ => none)
 | _ => none
theorem zq1195 {m : Mem} {hk ik : K} {e ity : TypeId} {j : Nat} {l : List hk.T} {ls : List (List ik.T)} {jb : Nat} (h : zq1194 m hk ik e ity j = some (l,ls,jb)) : ∃ fr,m[j]? = some (.row (.nest hk l jb) e true) ∧ m[jb]? = some (.bag ik ls ity true fr):=by
 unfold zq1194 at h
 split at h
 ·rename_i hj
  split at h
  ·rename_i hjb
   split at h
   ·rename_i hh
    obtain ⟨h1,h2⟩:=hh
    subst h1 h2
    split at h
    ·rename_i hc
     simp only [zc4,beq_iff_eq] at hc
     obtain ⟨rfl,rfl⟩:=hc
     simp only [zc2,zc11] at h
     obtain ⟨rfl,rfl,rfl⟩:=h
     exact ⟨_,hj,hjb⟩
    ·cases h
   ·cases h
  ·cases h
 ·cases h
def zq721 (hk ik : K) (e ity : TypeId) (args : List SV) (m : Mem) : Option (Nat × List hk.T × List (List ik.T) × Nat × Int × hk.T × List ik.T × Nat) :=
 match args with
 | [.row j,.i .i64 n,.row jv] =>
  (match zq1194 m hk ik e ity j,zq1194 m hk ik e ity jv with
  | some (l,ls,ja),some ([x],[y],jb) => if j != jv && ja != jb then some (j,l,ls,ja,n,x,y,jb) else none
  | _,_ => none)
 | _ => none
def zq723 (hk ik : K) (e ity : TypeId) (m : Mem) (j : Nat) (l : List hk.T) (ls : List (List ik.T)) (ja : Nat) (n : Int) (x : hk.T) (y : List ik.T) (jb : Nat) : Mem :=
 killO (goneL true [ja,jb] m ++ [.bag ik (insL (padL l.length ls) n y) ity true true]) (some j) ++ [.row (.nest hk (insL l n x) m.length) e true]
def zq722 (hk ik : K) (e ity : TypeId) : Con :=
 {tr:=fun _ args m kk => match zq721 hk ik e ity args m with
   | some (j,l,ls,ja,n,x,y,jb) => req (decide (0 ≤ n) && decide (n ≤ lenL l) && room (lenL l) 1) (kk (.row (m.length + 1)) (zq723 hk ik e ity m j l ls ja n x y jb))
   | none => none
  q:=false,law:=false,det:=true }
theorem zq739 {α : Type} {l : List α} {n : Nat} (hn : n ≤ l.length) (x : α) (i : Nat) : (l.take n ++ x :: l.drop n)[i]? = if i < n then l[i]? else if i = n then some x else l[i - 1]?:=by
 by_cases h1 : i < n
 ·rw [if_pos h1,zc6 (by simp;omega),zc14,if_pos h1]
 ·rw [if_neg h1,zc12 (by simp;omega),zc20,Nat.min_eq_left hn]
  by_cases h2 : i = n
  ·rw [if_pos h2,h2];simp
  ·rw [if_neg h2,show i - n = (i - n - 1) + 1 by omega,zc35,zc38]
   congr 1
   omega
theorem zq724 {P : Program} {f : FuncId} (hk ik : K) (e ity : TypeId)
  (h : ∀ (base : Nat) (w : World) (v u : Value) (n i : Nat) (cs xs : List Value),w.ownsRow base e (hk.sz + 1) v n cs → w.ownsRow base e (hk.sz + 1) u 1 xs → (∀ b,v.ownBlock = some b → u.ownBlock ≠ some b) → (∀ x ∈ cs,oneC x = true) → (∀ x ∈ xs,oneC x = true) → base ≤ w.heap.size → i ≤ n → n + 1 ≤ 274877906944 →
   Calls P f #[v,.int .i64 (i : Int),u] w fun r w' => ∃ v',r = .returned v' ∧ w'.ownsRow base e (hk.sz + 1) v' (n + 1) (cs.take (i * (hk.sz + 1)) ++ xs ++ cs.drop (i * (hk.sz + 1))) ∧ w.grownBy w' v.ownBlock ∧ (∀ b,v'.ownBlock = some b → v.ownBlock = some b ∨ w.heap.size ≤ b)) : TrOk P f (zq722 hk ik e ity):=by
 have inv : ∀ {X : Type} {args : List SV} {m : Mem} {kk : SV → Mem → Option X} {z : X},(zq722 hk ik e ity).tr X args m kk = some z → ∃ (j jv : Nat) (l : List hk.T) (ls : List (List ik.T)) (ja : Nat) (n : Int) (x : hk.T) (y : List ik.T) (jb : Nat),args = [.row j,.i .i64 n,.row jv] ∧ zq1194 m hk ik e ity j = some (l,ls,ja) ∧ zq1194 m hk ik e ity jv = some ([x],[y],jb) ∧ j ≠ jv ∧ ja ≠ jb ∧ 0 ≤ n ∧ n ≤ lenL l ∧ room (lenL l) 1 = true ∧
   zq721 hk ik e ity args m = some (j,l,ls,ja,n,x,y,jb) ∧ kk (.row (m.length + 1)) (zq723 hk ik e ity m j l ls ja n x y jb) = some z:=by
  intro X args m kk z hz
  simp only [zq722] at hz
  split at hz
  ·rename_i j l ls ja n x y jb ha
   obtain ⟨h1,h2⟩:=zq1399 hz
   simp only [zc4,decide_eq_true_eq] at h1
   have ha0:=ha
   unfold zq721 at ha
   split at ha
   ·rename_i j1 n1 jv1
    split at ha
    ·rename_i q1 q2
     split at ha
     ·rename_i hne
      simp only [zc4,bne_iff_ne,ne_eq] at hne
      simp only [zc2,zc11] at ha
      obtain ⟨rfl,rfl,rfl,rfl,rfl,rfl,rfl,rfl⟩:=ha
      exact ⟨_,_,_,_,_,_,_,_,_,rfl,q1,q2,hne.1,hne.2,h1.1.1,h1.1.2,h1.2,ha0,h2⟩
     ·cases ha
    ·cases ha
   ·cases ha
  ·cases hz
 refine ⟨fun W _ X args m kk z hz _ => ⟨fun _ ρ w hm => ?_⟩,(fun hq => by cases hq),fun _ X args m kk z hz => ?_⟩
 ·obtain ⟨j,jv,l,ls,ja,n,x,y,jb,rfl,hA,hB,hne,hjb,h0,h1,hroom,_,hk2⟩:=inv hz
  clear hz
  obtain ⟨fa,a3,a4⟩:=zq1195 hA
  obtain ⟨fb,b3,b4⟩:=zq1195 hB
  obtain ⟨va,va1,va2,va3,va4,va5,_,va7⟩:=zq409 hm a4
  obtain ⟨vb,vb1,vb2,_,_,_,vb6,vb7⟩:=zq409 hm b4
  obtain ⟨u0,rfl⟩ : ∃ u0,vb = [u0]:=by
   match vb,vb2 with
   | [u],_ => exact ⟨u,rfl⟩
  have hu0:=vb6 0 u0 y rfl rfl
  have hlp : (padV l.length va).length = l.length:=zq1209 _ _
  have hln : (padL l.length ls).length = l.length:=zq1211 _ _
  have hnl : n.toNat ≤ l.length:=by unfold lenL at h1;omega
  have hub : ∀ b,zq1715 u0 = some b → b ∈ zq1716 (ρ jb):=fun b hb => by rw [vb1];simp [zq1716,hb]
  have hcross : ∀ (z : Value) (b : Nat),z ∈ padV l.length va → zq1715 z = some b → zq1715 u0 ≠ some b:=fun z b hz hb hb2 => by
   exact hm.sep ja jb _ _ hjb a4 b4 rfl rfl b ((va4 l.length z hz b).1 hb) (by rw [zq434 rfl];exact hub b hb2)
  have hget : ∀ (p : Nat) (z : Value),(insL (padV l.length va) n u0)[p]? = some z → (p < n.toNat ∧ (padV l.length va)[p]? = some z) ∨ (p = n.toNat ∧ z = u0) ∨ (n.toNat < p ∧ (padV l.length va)[p - 1]? = some z):=fun p z hz => by
   unfold insL at hz
   rw [zq739 (by omega)] at hz
   split at hz
   ·exact .inl ⟨by assumption,hz⟩
   ·split at hz
    ·injection hz with hz;exact .inr (.inl ⟨by assumption,hz.symm⟩)
    ·exact .inr (.inr ⟨by omega,hz⟩)
  have hmem : ∀ z,z ∈ insL (padV l.length va) n u0 → z ∈ padV l.length va ∨ z = u0:=fun z hz => by
   obtain ⟨p,hp⟩:=zc30.1 hz
   rcases hget p z hp with ⟨_,h⟩ | ⟨_,h⟩ | ⟨_,h⟩
   ·exact .inl (zc5 h)
   ·exact .inr h
   ·exact .inl (zc5 h)
  obtain ⟨g1,g2⟩:=hm.bagPush (k:=ik) (ls:=insL (padL l.length ls) n y) (ity:=ity) (own:=true) (fr:=true) (vs:=insL (padV l.length va) n u0) [ja,jb]
   (by simp [insL,hlp,hln]) (fun p z lz hp hl => by
    unfold insL at hl
    rw [zq739 (by omega)] at hl
    rcases hget p z hp with ⟨h,hp⟩ | ⟨rfl,rfl⟩ | ⟨h,hp⟩
    ·rw [if_pos h] at hl
     obtain ⟨r1,r2⟩:=va3 l.length p z lz hp hl
     exact ⟨r1,fun _ => r2 rfl⟩
    ·rw [if_neg (by omega),if_pos rfl] at hl
     injection hl with hl
     subst hl
     exact ⟨hu0.1,fun _ => hu0.2 rfl⟩
    ·rw [if_neg (by omega),if_neg (by omega)] at hl
     obtain ⟨r1,r2⟩:=va3 l.length (p - 1) z lz hp hl
     exact ⟨r1,fun _ => r2 rfl⟩) (fun z hz b hb => by
    rcases hmem z hz with hz | rfl
    ·exact ⟨ja,by simp,_,a4,rfl,zq1363 ((va4 l.length z hz b).2 hb)⟩
    ·exact ⟨jb,by simp,_,b4,rfl,by rw [zq434 rfl];exact hub b (zq1368 hb)⟩) (fun _ z hz b hb => by
    rcases hmem z hz with hz | rfl
    ·exact ⟨ja,by simp,_,a4,(va4 l.length z hz b).1 hb,rfl⟩
    ·exact ⟨jb,by simp,_,b4,hub b hb,rfl⟩) (fun _ p q z z' b hpq hp hq hb => by
    rcases hget p z hp with ⟨h,hp2⟩ | ⟨rfl,rfl⟩ | ⟨h,hp2⟩ <;> rcases hget q z' hq with ⟨h',hq2⟩ | ⟨rfl,rfl⟩ | ⟨h',hq2⟩
    ·exact va5 rfl l.length p q z z' b hpq hp2 hq2 hb
    ·exact hcross z b (zc5 hp2) hb
    ·exact va5 rfl l.length p (q - 1) z z' b (by omega) hp2 hq2 hb
    ·exact fun hb2 => hcross z' b (zc5 hq2) hb2 hb
    ·exact absurd rfl hpq
    ·exact fun hb2 => hcross z' b (zc5 hq2) hb2 hb
    ·exact va5 rfl l.length (p - 1) q z z' b (by omega) hp2 hq2 hb
    ·exact hcross z b (zc5 hp2) hb
    ·exact va5 rfl l.length (p - 1) (q - 1) z z' b (by omega) hp2 hq2 hb) (fun _ z hz b hb => by
    rcases hmem z hz with hz | rfl
    ·exact (va7 rfl).2 l.length z hz b hb
    ·exact (vb7 rfl).1 _ (by simp) b hb)
  obtain ⟨_,hgl,_,_,_,hkeep⟩:=zq672 true [ja,jb] hm
  have hag:=zq1712 ρ m.length (.tuple (insL (padV l.length va) n u0).toArray)
  obtain ⟨_,hc1,ho1⟩:=hm.obj j _ a3
  obtain ⟨_,hc2,ho2⟩:=hm.obj jv _ b3
  rw [if_pos rfl] at ho1 ho2
  have hd1 : den ρ (.row j) = ρ j:=zq1433 hm a3
  have hd2 : den ρ (.row jv) = ρ jv:=zq1433 hm b3
  have e1 : ((n.toNat : Nat) : Int) = n:=Int.toNat_of_nonneg h0
  have hro : l.length + 1 ≤ 274877906944:=by
   have:=Nat.le_of_ble_eq_true hroom
   simpa [lenL] using this
  have hjow : ∀ (q : Nat) (b : Nat),(ρ q).ownBlock = some b → b ∈ zq1716 (ρ q):=by
   intro q b hb
   refine zq1046 ?_
   revert hb
   cases ρ q <;> simp [Value.ownBlock,zq1715]
   rename_i A1 _ _
   cases A1 <;> simp
  have:=h W.heap.size w (ρ j) (ρ jv) l.length n.toNat _ _ ho1 ho2 (fun b hb hb' => hm.sep j jv _ _ hne a3 b3 rfl rfl b (hjow j b hb) (by rw [zq434 rfl];exact hjow jv b hb')) hc1 hc2 hm.below.size hnl hro
  rw [e1] at this
  have ed : (denL ρ [.row j,.i .i64 n,.row jv]).toArray = #[ρ j,.int .i64 n,ρ jv]:=by
   show #[den ρ (.row j),.int .i64 n,den ρ (.row jv)] = _
   rw [hd1,hd2]
  rw [ed]
  refine this.mono ?_
  rintro r w' ⟨v',rfl,hown,hgb,hblk⟩
  have hjl : j < m.length:=(zc1.1 a3).1
  have hjn : j ∉ [ja,jb]:=by
   simp only [zc28,List.not_mem_nil,or_false,not_or]
   exact ⟨(fun e => by rw [e,a4] at a3;cases a3),(fun e => by rw [e,b4] at a3;cases a3)⟩
  have hm1j : (goneL true [ja,jb] m ++ [Obj.bag ik (insL (padL l.length ls) n y) ity true true])[j]? = some (.row (.nest hk l ja) e true):=by
   rw [zc6 (by rw [hgl];exact hjl),hkeep j hjn,a3]
  have hIl : (insL l n x).length = l.length + 1:=by unfold insL;simp;omega
  have hden : zq1067 (upd ρ m.length (.tuple (insL (padV l.length va) n u0).toArray)) hk (.tuple (insL (padV l.length va) n u0).toArray) (insL l n x) 0 = ((C.nest hk l ja).den ρ).take (n.toNat * (hk.sz + 1)) ++ (C.nest hk [x] jb).den ρ ++ ((C.nest hk l ja).den ρ).drop (n.toNat * (hk.sz + 1)):=by
   have hsplit : (C.nest hk l ja).den ρ = zq1067 ρ hk (ρ ja) (l.take n.toNat) 0 ++ zq1067 ρ hk (ρ ja) (l.drop n.toNat) n.toNat:=by
    simp only [C.den]
    conv => lhs;rw [← List.take_append_drop n.toNat l]
    rw [zq1068,Nat.zero_add,zc20,Nat.min_eq_left hnl]
   have hlt : (zq1067 ρ hk (ρ ja) (l.take n.toNat) 0).length = n.toNat * (hk.sz + 1):=by rw [zq1076,zc20,Nat.min_eq_left hnl]
   rw [hsplit,List.take_left' hlt,List.drop_left' hlt,zq1070 ρ]
   unfold insL
   rw [zq1068,Nat.zero_add,zc20,Nat.min_eq_left hnl,zq1067,zc45]
   have hin : ∀ p : Nat,innV (.tuple ((padV l.length va).take n.toNat ++ u0 :: (padV l.length va).drop n.toNat).toArray) (p : Int) = zq1481 ((if p < n.toNat then (padV l.length va)[p]? else if p = n.toNat then some u0 else (padV l.length va)[p - 1]?).getD (.slice none 0 0)):=fun p => by
    rw [zq713,zc3,zq739 (by omega)]
   have hia : ∀ p : Nat,p < l.length → innV (ρ ja) (p : Int) = zq1481 (((padV l.length va)[p]?).getD (.slice none 0 0)):=fun p hp => by
    rw [va1,zq713,zq1208,if_pos hp];rfl
   congr 1
   ·refine zq1069 _ _ _ _ _ _ _ fun p hp => ?_
    have hp : p < n.toNat:=by simp at hp;omega
    rw [Nat.zero_add,hin,if_pos hp,hia p (by omega)]
   ·simp only [C.den,zq1067]
    rw [hin,if_neg (by omega),if_pos rfl,vb1,show ((0 : Nat) : Int) = ((0 : Nat) : Int) from rfl,zq713]
    simp only [Option.getD_some,List.getD_cons_zero,zc45,List.cons_append,List.nil_append]
    congr 2
    refine zq1069 _ _ _ _ _ _ _ fun p hp => ?_
    have hp : n.toNat + p < l.length:=by simp at hp;omega
    rw [hin,if_neg (by omega),if_neg (by omega),hia _ hp,show n.toNat + 1 + p - 1 = n.toNat + p by omega]
  obtain ⟨hrel,A',c',hv'⟩:=g1.grow (j:=some j) (xv:=ρ j) (d:=.nest hk (insL l n x) m.length) (e:=e) (.inr ⟨j,_,rfl,by rw [hag j hjl],hm1j⟩) ho1 hgb hblk (by simp [C.sz]) (by simp [C.lt,g2])
   (fun u hu => by simp only [C.den,zq1714] at hu;exact zq1077 _ _ _ _ _ u hu) (by
    simp only [C.den,zq1714,hden,C.n,C.sz,hIl]
    exact hown)
  have hlen : (killO (goneL true [ja,jb] m ++ [Obj.bag ik (insL (padL l.length ls) n y) ity true true]) (some j)).length = m.length + 1:=by simp [killO,g2]
  refine ⟨_,.row (m.length + 1),_,?_,hrel,hag.trans (zq1712 _ _ _) (by rw [g2];omega),by simp [killO,g2];omega,fun _ => by simp [SV.lt,killO,g2],hk2⟩
  congr 1
  rw [show (goneL true [ja,jb] m ++ [Obj.bag ik (insL (padL l.length ls) n y) ity true true]).length = m.length + 1 from g2]
  simp only [den,zq1714,hv',zq1481]
 ·obtain ⟨j,jv,l,ls,ja,n,x,y,jb,rfl,hA,hB,hne,hjb,h0,h1,hroom,ha,hk2⟩:=inv hz
  refine ⟨.row (m.length + 1),_,?_,hk2,fun hl => by cases hl⟩
  simp only [zq722,ha]
  rw [show (decide (0 ≤ n) && decide (n ≤ lenL l) && room (lenL l) 1) = true by simp [h0,h1,hroom]]
  rfl
def adLt (a b : Ad) : Bool:=(!a.v6 && b.v6) || (a.v6 == b.v6 && (decide (a.hi < b.hi) || (decide (a.hi = b.hi) && decide (a.lo < b.lo))))
def insS (x : Ls) : List Ls → List Ls
 | [] => [x]
 | y :: r => if adLt y.ad x.ad then y :: insS x r else x :: y :: r
def sortL : List Ls → List Ls
 | [] => []
 | x :: r => insS x (sortL r)
def zq390 : List Ls → Bool
 | [] => true
 | x :: r => r.all (fun y => decide (y.ad ≠ x.ad)) && zq390 r
theorem RelM.rewritten {W : World} {ρ : Nat → Value} {m : Mem} {w w' : World} (hm : RelM W ρ m w) {j : Nat} {c : C} {bt : TypeId} (hj : m[j]? = some (.row c bt true)) {k : K} {l : List k.T} {e : TypeId}
  (hown' : w'.ownsRow W.heap.size e k.sz (ρ j) l.length (l.flatMap fun a => denL ρ (k.enc a))) (hgb : w.grownBy w' (ρ j).ownBlock) : RelM W ρ (m.set j (.row (.ty k l) e true)) w':=by
 have hjl : j < m.length:=(zc1.1 hj).1
 have hset : ∀ (i : Nat) (x : Obj),(m.set j (.row (.ty k l) e true))[i]? = some x → (i = j ∧ x = .row (.ty k l) e true) ∨ (i ≠ j ∧ m[i]? = some x):=by
  intro i x hi
  by_cases hij : i = j
  ·subst hij
   rw [List.getElem?_set_self hjl] at hi
   injection hi with hi
   exact .inl ⟨rfl,hi.symm⟩
  ·rw [List.getElem?_set_ne (by omega)] at hi
   exact .inr ⟨hij,hi⟩
 have hjow : ∀ b,(ρ j).ownBlock = some b → b ∈ zq1716 (ρ j):=by
  intro b hb
  refine zq1046 ?_
  revert hb
  cases ρ j <;> simp [Value.ownBlock,zq1715]
  rename_i A1 _ _
  cases A1 <;> simp
 have hbase : ∀ b,(ρ j).ownBlock = some b → W.heap.size ≤ b:=by
  intro b hb
  obtain ⟨_,_,hown⟩:=hm.obj j _ hj
  rw [if_pos rfl] at hown
  rcases hown.2 with ⟨h,_⟩ | ⟨g,cp,cur,h,h2,_⟩
  ·rw [h] at hb;cases hb
  ·rw [h] at hb
   simp only [Value.ownBlock,zc2] at hb
   omega
 refine ⟨hm.below.grown hgb hm.below.size hbase,fun i o hi => ?_,fun i q o1 o2 hiq hi hq hmu hd => ?_,fun i o hi => ?_⟩
 ·rcases hset i o hi with ⟨rfl,rfl⟩ | ⟨hne,hi⟩
  ·refine ⟨(zq1679 k : 0 < k.sz),fun u hu => zq628 hu,?_⟩
   rw [if_pos rfl]
   exact hown'
  ·cases hdd : o.deadB
   ·exact (hm.obj i o hi).keep (fun b hb hlt => hgb.block b hlt (fun e => hm.sep j i _ o (by omega) hj hi rfl (zq522.2 hdd) b (hjow b e.symm) hb)) hgb.size
   ·exact (hm.obj i o hi).still hdd
 ·have hi' : ∃ o1',m[i]? = some o1' ∧ o1'.mutB = true:=by
   rcases hset i o1 hi with ⟨rfl,rfl⟩ | ⟨hne,hi⟩
   ·exact ⟨_,hj,rfl⟩
   ·exact ⟨_,hi,hmu⟩
  have hq' : ∃ o2',m[q]? = some o2' ∧ (o2' matches .dead _) = false ∧ o2.blocks = o2'.blocks:=by
   rcases hset q o2 hq with ⟨rfl,rfl⟩ | ⟨hne,hq⟩
   ·exact ⟨_,hj,rfl,rfl⟩
   ·exact ⟨_,hq,hd,rfl⟩
  obtain ⟨o1',hi',hm'⟩:=hi'
  obtain ⟨o2',hq',hd',hbl⟩:=hq'
  rw [hbl]
  exact hm.sep i q o1' o2' hiq hi' hq' hm' hd'
 ·rw [List.length_set]
  rcases hset i o hi with ⟨rfl,rfl⟩ | ⟨_,hi⟩
  ·rfl
  ·exact hm.lt i o hi
def zq1525 (k : K) (e : TypeId) (g : FuncId) (args : List SV) (m : Mem) : Option (Nat × List k.T) :=
 match args with
 | [.row j,.fn g' []] => (match m[j]? with | some (.row (.ty k1 l) bt true) => if h : k1 = k then (if bt == e && g' == g then some (j,castL h l) else none) else none | _ => none)
 | _ => none
def zq1527 (k : K) (ok : List k.T → Bool) (srt : List k.T → List k.T) (e : TypeId) (g : FuncId) : Con :=
 {tr:=fun _ args m kk => match zq1525 k e g args m with
   | some (j,l) => req (ok l) (kk (.tup []) (m.set j (.row (.ty k (srt l)) e true)))
   | none => none
  q:=false,law:=false,det:=true }
theorem zq1526 {k : K} {e : TypeId} {g : FuncId} {args : List SV} {m : Mem} {j : Nat} {l : List k.T} (h : zq1525 k e g args m = some (j,l)) : args = [.row j,.fn g []] ∧ m[j]? = some (.row (.ty k l) e true):=by
 unfold zq1525 at h
 split at h
 ·split at h
  ·rename_i hj
   split at h
   ·rename_i hk
    subst hk
    split at h
    ·rename_i hc
     simp only [zc4,beq_iff_eq] at hc
     obtain ⟨rfl,rfl⟩:=hc
     simp only [zc2,zc11] at h
     obtain ⟨rfl,rfl⟩:=h
     exact ⟨rfl,hj⟩
    ·cases h
   ·cases h
  ·cases h
 ·cases h
theorem zq1532 {P : Program} {f : FuncId} (k : K) (ok : List k.T → Bool) (srt : List k.T → List k.T) (e : TypeId) (g : FuncId)
  (h : ∀ (W : World),Glob P W → ∀ (base : Nat) (w : World) (v : Value) (l : List k.T) (ρ : Nat → Value),Below W.heap.size W w → w.ownsRow base e k.sz v l.length (l.flatMap fun a => denL ρ (k.enc a)) → base ≤ w.heap.size → ok l = true →
   Calls P f #[v,.func (.func g) #[] #[]] w fun r w' => r = .returned (.tuple #[]) ∧ w'.ownsRow base e k.sz v (srt l).length ((srt l).flatMap fun a => denL ρ (k.enc a)) ∧ w.grownBy w' v.ownBlock) : TrOk P f (zq1527 k ok srt e g):=by
 have inv : ∀ {X : Type} {args : List SV} {m : Mem} {kk : SV → Mem → Option X} {x : X},(zq1527 k ok srt e g).tr X args m kk = some x → ∃ (j : Nat) (l : List k.T),zq1525 k e g args m = some (j,l) ∧ ok l = true ∧ kk (.tup []) (m.set j (.row (.ty k (srt l)) e true)) = some x:=by
  intro X args m kk x hk
  simp only [zq1527] at hk
  split at hk
  ·rename_i j l ha
   obtain ⟨h1,h2⟩:=zq1399 hk
   exact ⟨j,l,ha,h1,h2⟩
  ·cases hk
 refine ⟨fun W hG X args m kk x hk _ => ⟨fun _ ρ w hm => ?_⟩,(fun hq => by cases hq),fun _ X args m kk x hk => ?_⟩
 ·obtain ⟨j,l,ha,hap,hk2⟩:=inv hk
  clear hk
  obtain ⟨rfl,hj⟩:=zq1526 ha
  obtain ⟨_,hc1,ho1⟩:=hm.obj j _ hj
  rw [if_pos rfl] at ho1
  have hd1 : den ρ (.row j) = ρ j:=zq1433 hm hj
  have ed : (denL ρ [.row j,.fn g []]).toArray = #[ρ j,.func (.func g) #[] #[]]:=by
   show #[den ρ (.row j),den ρ (.fn g [])] = _
   rw [hd1]
   rfl
  rw [ed]
  refine (h W hG W.heap.size w (ρ j) l ρ hm.below ho1 hm.below.size hap).mono ?_
  rintro r w' ⟨rfl,hown,hgb⟩
  exact ⟨ρ,.tup [],_,rfl,hm.rewritten (k:=k) hj hown hgb,Agree.refl _ _,by simp,fun _ => rfl,hk2⟩
 ·obtain ⟨j,l,ha,hap,hk2⟩:=inv hk
  refine ⟨.tup [],_,?_,hk2,fun hl => by cases hl⟩
  simp only [zq1527,ha]
  rw [hap]
  rfl
def zq1530 (l : List Ls) : Bool:=!l.isEmpty && (room (lenL l) 0 && zq390 l)
theorem zq313 (a b : Ad) : adLt a b = true ↔ (a.v6 = false ∧ b.v6 = true) ∨ (a.v6 = b.v6 ∧ (a.hi < b.hi ∨ (a.hi = b.hi ∧ a.lo < b.lo))):=by
 unfold adLt
 cases a.v6 <;> cases b.v6 <;> simp
theorem zq315 {a b : Ad} : adLt a b = false ↔ ¬ adLt a b = true:=by cases adLt a b <;> simp
theorem zq314 (a : Ad) : adLt a a = false:=by
 rw [zq315,zq313]
 rintro (⟨h1,h2⟩ | ⟨_,h | ⟨_,h⟩⟩)
 ·rw [h1] at h2;cases h2
 ·omega
 ·omega
theorem zq318 {a b c : Ad} (h1 : adLt a b = true) (h2 : adLt b c = true) : adLt a c = true:=by
 rw [zq313] at *
 rcases h1 with ⟨p1,p2⟩ | ⟨p1,p2⟩ <;> rcases h2 with ⟨q1,q2⟩ | ⟨q1,q2⟩
 ·rw [p2] at q1;cases q1
 ·exact .inl ⟨p1,by rw [← q1];exact p2⟩
 ·exact .inl ⟨by rw [p1];exact q1,q2⟩
 ·exact .inr ⟨p1.trans q1,by omega⟩
theorem zq319 (a b : Ad) (h1 : adLt a b = false) (h2 : adLt b a = false) : a = b:=by
 rw [zq315,zq313] at h1 h2
 obtain ⟨av,ah,al⟩:=a
 obtain ⟨bv,bh,bl⟩:=b
 simp only at h1 h2
 have hv : av = bv:=by cases av <;> cases bv <;> simp_all
 subst hv
 have e1 : ah = bh:=by
  rcases Int.lt_trichotomy ah bh with h | h | h
  ·exact absurd (.inr ⟨rfl,.inl h⟩) h1
  ·exact h
  ·exact absurd (.inr ⟨rfl,.inl h⟩) h2
 subst e1
 have e2 : al = bl:=by
  rcases Int.lt_trichotomy al bl with h | h | h
  ·exact absurd (.inr ⟨rfl,.inr ⟨rfl,h⟩⟩) h1
  ·exact h
  ·exact absurd (.inr ⟨rfl,.inr ⟨rfl,h⟩⟩) h2
 subst e2
 rfl
theorem zq316 {a b c : Ad} (h1 : adLt a b = false) (h2 : adLt b c = false) : adLt a c = false:=by
 cases h : adLt a c
 ·rfl
 ·exfalso
  cases hb : adLt b a
  ·have:=zq319 a b h1 hb
   subst this
   rw [h2] at h;cases h
  ·have:=zq318 hb h
   rw [h2] at this;cases this
theorem zq312 {a b : Ad} (h : adLt a b = true) : adLt b a = false:=by
 cases hb : adLt b a
 ·rfl
 ·have:=zq318 h hb
  rw [zq314] at this;cases this
theorem zq730 (x : Ls) : ∀ l : List Ls,(insS x l).Perm (x :: l)
 | [] => .refl _
 | y :: r => by
  unfold insS
  split
  ·exact ((zq730 x r).cons y).trans (.swap x y r)
  ·exact .refl _
theorem zq1528 : ∀ l : List Ls,(sortL l).Perm l
 | [] => .refl _
 | x :: r => (zq730 x (sortL r)).trans ((zq1528 r).cons x)
def leL (a b : Ls) : Prop:=adLt b.ad a.ad = false
theorem zq732 (x : Ls) : ∀ l : List Ls,l.Pairwise leL → (insS x l).Pairwise leL
 | [],_ => by simp [insS]
 | y :: r,h => by
  have h':=zc44.1 h
  unfold insS
  split
  ·rename_i hlt
   refine zc44.2 ⟨fun z hz => ?_,zq732 x r h'.2⟩
   rcases zc28.1 ((zq730 x r).mem_iff.1 hz) with rfl | hz
   ·exact zq312 hlt
   ·exact h'.1 z hz
  ·rename_i hlt
   have hyx : adLt y.ad x.ad = false:=by simpa using hlt
   refine zc44.2 ⟨fun z hz => ?_,h⟩
   rcases zc28.1 hz with rfl | hz
   ·exact hyx
   ·exact zq316 (h'.1 z hz) hyx
theorem zq1529 : ∀ l : List Ls,(sortL l).Pairwise leL
 | [] => .nil
 | x :: r => zq732 x _ (zq1529 r)
theorem zq392 : ∀ {l : List Ls},zq390 l = true → ∀ {a b : Ls},a ∈ l → b ∈ l → a.ad = b.ad → a = b
 | [],_,_,_,h,_,_ => by cases h
 | x :: r,hap,a,b,ha,hb,he => by
  simp only [zq390,zc4,zc17,decide_eq_true_eq] at hap
  rcases zc28.1 ha with ea | ha' <;> rcases zc28.1 hb with eb | hb'
  ·rw [ea,eb]
  ·exact absurd (by rw [← he,ea]) (hap.1 b hb')
  ·exact absurd (by rw [he,eb]) (hap.1 a ha')
  ·exact zq392 hap.2 ha' hb' he
theorem zq1533 {l l' : List Ls} (hp : l'.Perm l) (hs : l'.Pairwise leL) (hap : zq390 l = true) : l' = sortL l :=
 List.Perm.eq_of_pairwise (le:=leL) (fun _ _ ha hb h1 h2 => zq392 hap (hp.mem_iff.1 ha) ((zq1528 l).mem_iff.1 hb) (zq319 _ _ h2 h1)) hs (zq1529 l) (hp.trans (zq1528 l).symm)
end Go.Ma
namespace Go.Ma
open Go
def zq861 (a0 : Int) : Option (Ad × Unit) :=
 some ((⟨false,0,a0⟩ : Ad),())
def zq834 (a0 : Int) (a1 : Int) : Option (Pf × Unit) :=
 (zq861 a0).bind fun y1 =>
 some ((⟨y1.1,a1⟩ : Pf),())
def zq845 : Option ((List Oq) × Unit) :=
 (zq834 8 30).bind fun y1 =>
 (zq861 8).bind fun y2 =>
 some (([(⟨1,y1.1,(⟨false,0,0⟩ : Ad),(ByteArray.empty),0,0⟩ : Oq),(⟨2,(⟨(⟨false,0,0⟩ : Ad),0⟩ : Pf),y2.1,(ByteArray.empty),0,0⟩ : Oq),(⟨3,(⟨(⟨false,0,0⟩ : Ad),0⟩ : Pf),(⟨false,0,0⟩ : Ad),(⟨#[120]⟩ : ByteArray),0,10⟩ : Oq)] : List Oq),())
def zq338 (a0 : Ad) : Option (Int × Unit) :=
 (br (!a0.v6)
 (br (!decide (a0.hi = 0))
 (some true)
 (some (decide (a0.lo ≥ 4294967296))))
 (some false)).bind fun c1 =>
 br c1
 (some (3,()))
 (some (0,()))
def zq1292 (a0 : Ad) : Option (Int × Unit) :=
 br a0.v6
 (some (128,()))
 (some (32,()))
def zq1298 (a0 : Ad) (a1 : Int) : Option (Ad × Unit) :=
 (zq1292 a0).bind fun y1 =>
 req (i64ok (y1.1 - a1)) <|
 br (decide (y1.1 - a1 < 64))
 (req (decide (0 ≤ y1.1 - a1)) <|
 br (decide (y1.1 - a1 > 64))
 (br (decide (y1.1 - a1 < 128))
 (req (i64ok ((y1.1 - a1) - 64)) <|
 req (decide (0 ≤ (y1.1 - a1) - 64)) <|
 some ((⟨a0.v6,aop .sub .u64 (aop .shl .u64 1 ((y1.1 - a1) - 64)) 1,aop .sub .u64 (aop .shl .u64 1 (y1.1 - a1)) 1⟩ : Ad),()))
 (some ((⟨a0.v6,18446744073709551615,aop .sub .u64 (aop .shl .u64 1 (y1.1 - a1)) 1⟩ : Ad),())))
 (some ((⟨a0.v6,0,aop .sub .u64 (aop .shl .u64 1 (y1.1 - a1)) 1⟩ : Ad),())))
 (br (decide (y1.1 - a1 > 64))
 (br (decide (y1.1 - a1 < 128))
 (req (i64ok ((y1.1 - a1) - 64)) <|
 req (decide (0 ≤ (y1.1 - a1) - 64)) <|
 some ((⟨a0.v6,aop .sub .u64 (aop .shl .u64 1 ((y1.1 - a1) - 64)) 1,18446744073709551615⟩ : Ad),()))
 (some ((⟨a0.v6,18446744073709551615,18446744073709551615⟩ : Ad),())))
 (some ((⟨a0.v6,0,18446744073709551615⟩ : Ad),())))
def zq1256 (a0 : Ad) (a1 : Int) : Option (Ad × Unit) :=
 (zq1298 a0 a1).bind fun y1 =>
 some ((⟨a0.v6,aop .andNot .u64 a0.hi y1.1.hi,aop .andNot .u64 a0.lo y1.1.lo⟩ : Ad),())
def zq1250 (a0 : Pf) : Option (Int × Unit) :=
 (zq338 a0.ad).bind fun y1 =>
 br (!decide (y1.1 = 0))
 (some (y1.1,()))
 ((br (decide (a0.bits < 0))
 (some true)
 ((zq1292 a0.ad).bind fun y2 =>
 some (decide (a0.bits > y2.1)))).bind fun c2 =>
 br c2
 (some (3,()))
 ((zq1256 a0.ad a0.bits).bind fun y3 =>
 br (!(eqAd y3.1 a0.ad))
 (some (4,()))
 (some (0,()))))
def zq929 (a0 : Pf) : Option (Bool × Unit) :=
 (zq1292 a0.ad).bind fun y1 =>
 req (i64ok (y1.1 - a0.bits)) <|
 some (decide (y1.1 - a0.bits ≤ 4),())
def zq1262 (a0 : Pf) (a1 : Ad) : Option (Bool × Unit) :=
 (br (beqB a0.ad.v6 a1.v6)
 ((zq1256 a1 a0.bits).bind fun y1 =>
 some (eqAd y1.1 a0.ad))
 (some false)).bind fun c1 =>
 some (c1,())
def zq343 (a0 : Int) (a1 : Int) : Option (Int × Unit) :=
 br (decide (a0 < a1))
 (some ((-1),()))
 (br (decide (a0 > a1))
 (some (1,()))
 (some (0,())))
def zq349 (a0 : Ad) (a1 : Ad) : Option (Int × Unit) :=
 (br (!(beqB a0.v6 a1.v6))
 (some a1.v6)
 (some false)).bind fun c1 =>
 br c1
 (some ((-1),()))
 (br (!(beqB a0.v6 a1.v6))
 (some (1,()))
 (br (!decide (a0.hi = a1.hi))
 ((zq343 a0.hi a1.hi).bind fun y2 =>
 some (y2.1,()))
 ((zq343 a0.lo a1.lo).bind fun y2 =>
 some (y2.1,()))))
abbrev lease_Pool_L7_A:=((Unit × Unit × (Int × Unit) × (Int × Unit) × Unit) × (List Ad × (Bool × Int × Int × Int × Unit) × Unit))
abbrev lease_Pool_L7_B:=Option ((((Int × Unit) × Unit) × (List Ad × Unit)) ⊕ (Unit × (List Ad × Unit)))
def zq930 (rec : lease_Pool_L7_A → lease_Pool_L7_B) (x : lease_Pool_L7_A) : lease_Pool_L7_B :=
 let v0:=x.1.2.2.1.1
 let v1:=x.1.2.2.2.1.1
 let v2:=x.2.1
 let v3:=x.2.2.1.1
 let v4:=x.2.2.1.2.1
 let v5:=x.2.2.1.2.2.1
 let v6:=x.2.2.1.2.2.2.1
 br (decide (v1 < v0))
 (req (zq697 v1 (lenL v2)) <|
 (geti v2 v1).bind fun p1 =>
 (zq338 p1).bind fun y2 =>
 br (!decide (y2.1 = 0))
 (some (Sum.inl (((y2.1,()),()),(v2,()))))
 ((zq1262 (⟨(⟨v3,v4,v5⟩ : Ad),v6⟩ : Pf) p1).bind fun y3 =>
 br (!y3.1)
 (some (Sum.inl (((5,()),()),(v2,()))))
 ((br (decide (v1 > 0))
 (req (i64ok (v1 - 1)) <|
 req (zq697 (v1 - 1) (lenL v2)) <|
 (geti v2 (v1 - 1)).bind fun p4 =>
 (zq349 p4 p1).bind fun y5 =>
 some (decide (y5.1 ≥ 0)))
 (some false)).bind fun c4 =>
 br c4
 (some (Sum.inl (((4,()),()),(v2,()))))
 (req (i64ok (v1 + 1)) <|
 rec (((),(),(v0,()),(v1 + 1,()),()),(v2,(v3,v4,v5,v6,()),()))))))
 (some (Sum.inr (((),(v2,())))))
def zq938 (a0 : Pf) (a1 : List Ad) : Option (Int × Unit) :=
 (zq1250 a0).bind fun y1 =>
 br (!decide (y1.1 = 0))
 (some (y1.1,()))
 ((zq929 a0).bind fun y2 =>
 (br (!y2.1)
 (some true)
 (some (decide (lenL a1 > 6)))).bind fun c3 =>
 br c3
 (some (2,()))
 ((loopN zq930 FUEL (((()),(()),(lenL a1,()),(0,()),()),(a1,(a0.ad.v6,a0.ad.hi,a0.ad.lo,a0.bits,()),()))).bind fun y4 =>
 sumC y4 (fun y5 =>
 some (y5.1.1.1,())) (fun y6 =>
 some (0,()))))
def zq1280 (a0 : Pf) (a1 : Pf) : Option (Int × Unit) :=
 (zq349 a0.ad a1.ad).bind fun y1 =>
 br (!decide (y1.1 = 0))
 (some (y1.1,()))
 (req (i64ok (a0.bits - a1.bits)) <|
 some (a0.bits - a1.bits,()))
def zq1286 (a0 : Pf) (a1 : Pf) : Option (Bool × Unit) :=
 (br (decide (a0.bits ≤ a1.bits))
 ((zq1262 a0 a1.ad).bind fun y1 =>
 some y1.1)
 (some false)).bind fun c1 =>
 some (c1,())
def zq1274 (a0 : Pf) (a1 : Pf) : Option (Bool × Unit) :=
 (zq1286 a0 a1).bind fun y1 =>
 (br y1.1
 (some true)
 ((zq1286 a1 a0).bind fun y2 =>
 some y2.1)).bind fun c2 =>
 some (c2,())
def zq1662 (a0 : Int) (a1 : Int) (a2 : Int) : Option (Bool × Unit) :=
 (br (decide (a0 ≥ a1))
 (some (decide (a0 ≤ a2)))
 (some false)).bind fun c1 =>
 some (c1,())
def zq991 (a0 : Int) (a1 : Int) (a2 : Int) : Option (Bool × Unit) :=
 (br (decide (a0 ≥ a1))
 (some (decide (a0 ≤ a2)))
 (some false)).bind fun c1 =>
 some (c1,())
abbrev lease_Who_L2_A:=(((ByteArray × Unit) × (Int × Unit) × (Int × Unit) × Unit) × Unit)
abbrev lease_Who_L2_B:=Option ((((Bool × Unit) × Unit) × Unit) ⊕ (((ByteArray × Unit) × Unit) × Unit))
def zq971 (rec : lease_Who_L2_A → lease_Who_L2_B) (x : lease_Who_L2_A) : lease_Who_L2_B :=
 let v0:=x.1.1.1
 let v1:=x.1.2.1.1
 let v2:=x.1.2.2.1.1
 br (decide (v2 < v1))
 (req (zq697 v2 (lenS v0)) <|
 (br (decide (zq455 v0 v2 ≥ 97))
 (some (decide (zq455 v0 v2 ≤ 122)))
 (some false)).bind fun c1 =>
 (br (!c1)
 (br (decide (zq455 v0 v2 ≥ 48))
 (some (!(decide (zq455 v0 v2 ≤ 57))))
 (some true))
 (some false)).bind fun c2 =>
 br c2
 (some (Sum.inl (((false,()),()),())))
 (req (i64ok (v2 + 1)) <|
 rec (((v0,()),(v1,()),(v2 + 1,()),()),())))
 (some (Sum.inr ((((v0,()),()),()))))
def zq979 (a0 : ByteArray) : Option (Bool × Unit) :=
 (loopN zq971 FUEL (((a0,()),(lenS a0,()),(0,()),()),(()))).bind fun y1 =>
 sumC y1 (fun y2 =>
 some (y2.1.1.1,())) (fun y3 =>
 (zq991 (lenS y3.1.1.1) 1 8).bind fun y4 =>
 some (y4.1,()))
def zq985 (a0 : Ls) : Option (Int × Unit) :=
 (zq338 a0.ad).bind fun y1 =>
 br (!decide (y1.1 = 0))
 (some (y1.1,()))
 ((zq979 a0.who).bind fun y2 =>
 br (!y2.1)
 (some (1,()))
 ((zq991 a0.upto 0 10499).bind fun y3 =>
 br (!y3.1)
 (some (3,()))
 (some (0,()))))
abbrev lease_All_L4_A:=((Unit × (Int × Unit) × Unit × (Int × Unit) × (Int × Unit) × Unit) × (List Ls × Unit))
abbrev lease_All_L4_B:=Option ((((Int × Unit) × Unit) × (List Ls × Unit)) ⊕ ((Unit × (Int × Unit) × Unit) × (List Ls × Unit)))
def zq871 (rec : lease_All_L4_A → lease_All_L4_B) (x : lease_All_L4_A) : lease_All_L4_B :=
 let v0:=x.1.2.1.1
 let v1:=x.1.2.2.2.1.1
 let v2:=x.1.2.2.2.2.1.1
 let v3:=x.2.1
 br (decide (v2 < v1))
 (req (zq697 v2 (lenL v3)) <|
 (geti v3 v2).bind fun p1 =>
 (zq985 p1).bind fun y2 =>
 br (!decide (y2.1 = 0))
 (some (Sum.inl (((y2.1,()),()),(v3,()))))
 (req (i64ok (v2 + 1)) <|
 rec (((),(v0,()),(),(v1,()),(v2 + 1,()),()),(v3,()))))
 (some (Sum.inr ((((),(v0,()),()),(v3,())))))
abbrev lease_All_L11_A:=((Unit × (Int × Unit) × (Int × Unit) × Unit) × (List Ls × Unit))
abbrev lease_All_L11_B:=Option ((((Int × Unit) × Unit) × (List Ls × Unit)) ⊕ (((Int × Unit) × Unit) × (List Ls × Unit)))
def zq868 (rec : lease_All_L11_A → lease_All_L11_B) (x : lease_All_L11_A) : lease_All_L11_B :=
 let v0:=x.1.2.1.1
 let v1:=x.1.2.2.1.1
 let v2:=x.2.1
 br (decide (v1 < lenL v2))
 (req (i64ok (v1 - 1)) <|
 req (zq697 (v1 - 1) (lenL v2)) <|
 req (zq697 (v1 - 1) (lenL v2)) <|
 (geti v2 (v1 - 1)).bind fun p1 =>
 req (zq697 v1 (lenL v2)) <|
 req (zq697 v1 (lenL v2)) <|
 (geti v2 v1).bind fun p2 =>
 (zq349 p1.ad p2.ad).bind fun y3 =>
 br (decide (y3.1 ≥ 0))
 (some (Sum.inl (((4,()),()),(v2,()))))
 (req (i64ok (v1 + 1)) <|
 rec (((),(v0,()),(v1 + 1,()),()),(v2,()))))
 (some (Sum.inr ((((v0,()),()),(v2,())))))
def zq879 (a0 : List Ls) (a1 : Int) : Option (Int × Unit) :=
 br (decide (lenL a0 > 20))
 (some (2,()))
 ((loopN zq871 FUEL (((()),(a1,()),(()),(lenL a0,()),(0,()),()),(a0,()))).bind fun y1 =>
 sumC y1 (fun y2 =>
 some (y2.1.1.1,())) (fun y3 =>
 (loopN zq868 FUEL (((()),(y3.1.2.1.1,()),(1,()),()),(y3.2.1,()))).bind fun y4 =>
 sumC y4 (fun y5 =>
 some (y5.1.1.1,())) (fun y6 =>
 (zq991 y6.1.1.1 0 9999).bind fun y7 =>
 br (!y7.1)
 (some (3,()))
 (some (0,())))))
def zq1644 (a0 : Pf) (a1 : List Ad) (a2 : Ad) : Option (Bool × Unit) :=
 (zq1262 a0 a2).bind fun y1 =>
 some (y1.1,())
abbrev state_poolOf_slices_IndexFunc___api_Pool_api_Pool__L2_A:=((Unit × Unit × (Int × Unit) × (Int × Unit) × Unit) × (List (List Ad) × List Pf × List Ls × (Int × Unit) × (Ad × Unit) × Unit))
abbrev state_poolOf_slices_IndexFunc___api_Pool_api_Pool__L2_B:=Option ((((Int × Unit) × Unit) × (List (List Ad) × List Pf × List Ls × (Int × Unit) × (Ad × Unit) × Unit)) ⊕ (Unit × (List (List Ad) × List Pf × List Ls × (Int × Unit) × (Ad × Unit) × Unit)))
def zq1650 (rec : state_poolOf_slices_IndexFunc___api_Pool_api_Pool__L2_A → state_poolOf_slices_IndexFunc___api_Pool_api_Pool__L2_B) (x : state_poolOf_slices_IndexFunc___api_Pool_api_Pool__L2_A) : state_poolOf_slices_IndexFunc___api_Pool_api_Pool__L2_B :=
 let v0:=x.1.2.2.1.1
 let v1:=x.1.2.2.2.1.1
 let v2:=x.2.1
 let v3:=x.2.2.1
 let v4:=x.2.2.2.1
 let v5:=x.2.2.2.2.1.1
 let v6:=x.2.2.2.2.2.1.1
 br (decide (v1 < v0))
 (req (zq697 v1 (lenL v3)) <|
 (geti v3 v1).bind fun p1 =>
 (zq1644 p1 (getL v2 v1) v6).bind fun y2 =>
 br y2.1
 (some (Sum.inl (((v1,()),()),(v2,v3,v4,(v5,()),(v6,()),()))))
 (req (i64ok (v1 + 1)) <|
 rec (((),(),(v0,()),(v1 + 1,()),()),(v2,v3,v4,(v5,()),(v6,()),()))))
 (some (Sum.inr (((),(v2,v3,v4,(v5,()),(v6,()),())))))
def zq1656 (a0 : List Pf × List (List Ad)) (a1 : List Ls) (a2 : Int) (a3 : Ad) : Option (Int × Unit) :=
 (loopN zq1650 FUEL (((()),(()),(lenL a0.1,()),(0,()),()),(a0.2,a0.1,a1,(a2,()),(a3,()),()))).bind fun y1 =>
 sumC y1 (fun y2 =>
 some (y2.1.1.1,())) (fun y3 =>
 some ((-1),()))
def zq1638 (a0 : Oq) : Option (Bool × Unit) :=
 (br (!decide (a0.kind = 1))
 (some (!(eqPf a0.pf (⟨(⟨false,0,0⟩ : Ad),0⟩ : Pf))))
 (some false)).bind fun c1 =>
 (br c1
 (some true)
 (br (!decide (a0.kind = 2))
 (some (!(eqAd a0.ad (⟨false,0,0⟩ : Ad))))
 (some false))).bind fun c2 =>
 (br c2
 (some true)
 (br (!decide (a0.kind = 3))
 (br (!decide (a0.kind = 4))
 (some (zq1672 .neq a0.who (ByteArray.empty)))
 (some false))
 (some false))).bind fun c3 =>
 (br c3
 (some true)
 (br (!decide (a0.kind = 3))
 (some (!decide (a0.of_ = 0)))
 (some false))).bind fun c4 =>
 (br c4
 (some true)
 (br (!decide (a0.kind = 3))
 (br (!decide (a0.kind = 5))
 (some (!decide (a0.n = 0)))
 (some false))
 (some false))).bind fun c5 =>
 some (c5,())
def zq1577 (a0 : Oq) : Option (Int × Unit) :=
 (zq1662 a0.kind 1 5).bind fun y1 =>
 br (!y1.1)
 (some (7,()))
 ((zq1638 a0).bind fun y2 =>
 br y2.1
 (some (1,()))
 (br (decide (a0.kind = 1))
 ((zq1250 a0.pf).bind fun y3 =>
 br (!decide (y3.1 = 0))
 (some (y3.1,()))
 ((zq929 a0.pf).bind fun y4 =>
 br (!y4.1)
 (some (2,()))
 (some (0,()))))
 (br (decide (a0.kind = 2))
 ((zq338 a0.ad).bind fun y3 =>
 some (y3.1,()))
 (br (decide (a0.kind = 3))
 (br (decide (a0.kind = 3))
 ((zq979 a0.who).bind fun y3 =>
 br (!y3.1)
 (some (1,()))
 ((br (decide (a0.kind = 3))
 ((zq1662 a0.of_ 0 2).bind fun y4 =>
 br (!y4.1)
 (some true)
 ((zq1662 a0.n 1 500).bind fun y5 =>
 some (!y5.1)))
 (some false)).bind fun c4 =>
 br c4
 (some (3,()))
 (some (0,()))))
 (br (decide (a0.kind = 5))
 ((zq1662 a0.n 0 9999).bind fun y3 =>
 br (!y3.1)
 (some (3,()))
 (some (0,())))
 (some (0,()))))
 (br (decide (a0.kind = 4))
 ((zq979 a0.who).bind fun y3 =>
 br (!y3.1)
 (some (1,()))
 ((br (decide (a0.kind = 3))
 ((zq1662 a0.of_ 0 2).bind fun y4 =>
 br (!y4.1)
 (some true)
 ((zq1662 a0.n 1 500).bind fun y5 =>
 some (!y5.1)))
 (some false)).bind fun c4 =>
 br c4
 (some (3,()))
 (some (0,()))))
 (br (decide (a0.kind = 5))
 ((zq1662 a0.n 0 9999).bind fun y3 =>
 br (!y3.1)
 (some (3,()))
 (some (0,())))
 (some (0,()))))))))
def zq1492 (a0 : List Ls) : Option ((List Ls) × Unit) :=
 nilB a0.length
 (some (([] : List Ls),()))
 (req (room (lenL ([] : List Ls)) (lenL a0)) <|
 some (([] : List Ls) ++ a0,()))
def zq1487 (a0 : List Ad) : Option ((List Ad) × Unit) :=
 nilB a0.length
 (some (([] : List Ad),()))
 (req (room (lenL ([] : List Ad)) (lenL a0)) <|
 some (([] : List Ad) ++ a0,()))
abbrev state_Own_L3_A:=((Unit × Unit × Unit × (Int × Unit) × (Int × Unit) × Unit) × (List (List Ad) × List Pf × List Ls × (Int × Unit) × (Int × Unit) × List Pf × List Ls × List Pf × List Ls × List (List Ad) × List (List Ad) × Unit))
abbrev state_Own_L3_B:=Option ((Unit × Unit × Unit) × (List (List Ad) × List Pf × List Ls × (Int × Unit) × (Int × Unit) × List Pf × List Ls × List Pf × List Ls × List (List Ad) × List (List Ad) × Unit))
def zq1578 (rec : state_Own_L3_A → state_Own_L3_B) (x : state_Own_L3_A) : state_Own_L3_B :=
 let v0:=x.1.2.2.2.1.1
 let v1:=x.1.2.2.2.2.1.1
 let v2:=x.2.1
 let v3:=x.2.2.1
 let v4:=x.2.2.2.1
 let v5:=x.2.2.2.2.1.1
 let v6:=x.2.2.2.2.2.1.1
 let zz:=x.2.2.2.2.2.2
 let v7:=zz.1
 let v8:=zz.2.1
 let v9:=zz.2.2.1
 let v10:=zz.2.2.2.1
 let v11:=zz.2.2.2.2.1
 let v12:=zz.2.2.2.2.2.1
 br (decide (v1 < v0))
 (req (zq697 v1 (lenL v3)) <|
 (geti v3 v1).bind fun p1 =>
 both
 (both
 ((zq1487 (getL v2 v1)).bind fun y2 =>
 req (room (lenL v9) (lenL ([p1] : List Pf))) <|
 req (i64ok (v1 + 1)) <|
 rec (((),(),(),(v0,()),(v1 + 1,()),()),(v2,v3,v4,(v5,()),(v6,()),v7,v8,v9 ++ ([p1] : List Pf),v10,v11,padL v9.length v12 ++ ([y2.1] : List (List Ad)),())))
 ((zq1487 (getL v2 v1)).bind fun y2 =>
 dup 1 <|
 req (room (lenL v9) (lenL ([p1] : List Pf))) <|
 req (i64ok (v1 + 1)) <|
 rec (((),(),(),(v0,()),(v1 + 1,()),()),(v2,v3,v4,(v5,()),(v6,()),v7,v8,v9 ++ ([p1] : List Pf),v10,v11,padL v9.length v12 ++ ([y2.1] : List (List Ad)),()))))
 ((zq1487 (getL v2 v1)).bind fun y2 =>
 both
 (dup 1 <|
 req (room (lenL v9) (lenL ([p1] : List Pf))) <|
 req (i64ok (v1 + 1)) <|
 rec (((),(),(),(v0,()),(v1 + 1,()),()),(v2,v3,v4,(v5,()),(v6,()),v7,v8,v9 ++ ([p1] : List Pf),v10,v11,padL v9.length v12 ++ ([y2.1] : List (List Ad)),())))
 (req (room (lenL v9) (lenL ([p1] : List Pf))) <|
 req (i64ok (v1 + 1)) <|
 rec (((),(),(),(v0,()),(v1 + 1,()),()),(v2,v3,v4,(v5,()),(v6,()),v7,v8,v9 ++ ([p1] : List Pf),v10,v11,padL v9.length v12 ++ ([y2.1] : List (List Ad)),())))))
 (some (((),(),()),(v2,v3,v4,(v5,()),(v6,()),v7,v8,v9,v10,v11,v12,())))
def zq1586 (a0 : List Pf × List (List Ad)) (a1 : List Ls) (a2 : Int) : Option (((List Pf × List (List Ad)) × (List Ls) × Int × Unit) × Unit) :=
 dup 1 <|
 (zq1492 a1).bind fun y1 =>
 (loopN zq1578 FUEL (((()),(()),(()),(lenL a0.1,()),(0,()),()),(a0.2,a0.1,a1,(0,()),(a2,()),([] : List Pf),([] : List Ls),([] : List Pf),y1.1,([] : List (List Ad)),([] : List (List Ad)),()))).bind fun y2 =>
 some (((y2.2.2.2.2.2.2.2.2.1,y2.2.2.2.2.2.2.2.2.2.2.2.1),y2.2.2.2.2.2.2.2.2.2.1,y2.2.2.2.2.2.1.1,()),())
def zq304 (a0 : Pf) (a1 : List Ad) (a2 : Pf) : Option (Bool × Unit) :=
 (zq1274 a0 a2).bind fun y1 =>
 some (y1.1,())
def zq309 (a0 : Pf) (a1 : List Ad) (a2 : Pf) : Option (Int × Unit) :=
 (zq1280 a0 a2).bind fun y1 =>
 some (y1.1,())
def zq288 (a0 : Ls) (a1 : ByteArray) : Option (Bool × Unit) :=
 some (zq1672 .eql a0.who a1,())
abbrev m_state_doer__find_slices_IndexFunc___api_Lease_api_Lease__L2_A:=((Unit × Unit × (Int × Unit) × (Int × Unit) × Unit) × ((Int × Unit) × List (List Ad) × List Pf × List Ls × (ByteArray × Unit) × Unit))
abbrev m_state_doer__find_slices_IndexFunc___api_Lease_api_Lease__L2_B:=Option ((((Int × Unit) × Unit) × ((Int × Unit) × List (List Ad) × List Pf × List Ls × (ByteArray × Unit) × Unit)) ⊕ (Unit × ((Int × Unit) × List (List Ad) × List Pf × List Ls × (ByteArray × Unit) × Unit)))
def zq293 (rec : m_state_doer__find_slices_IndexFunc___api_Lease_api_Lease__L2_A → m_state_doer__find_slices_IndexFunc___api_Lease_api_Lease__L2_B) (x : m_state_doer__find_slices_IndexFunc___api_Lease_api_Lease__L2_A) : m_state_doer__find_slices_IndexFunc___api_Lease_api_Lease__L2_B :=
 let v0:=x.1.2.2.1.1
 let v1:=x.1.2.2.2.1.1
 let v2:=x.2.1.1
 let v3:=x.2.2.1
 let v4:=x.2.2.2.1
 let v5:=x.2.2.2.2.1
 let v6:=x.2.2.2.2.2.1.1
 br (decide (v1 < v0))
 (req (zq697 v1 (lenL v5)) <|
 (geti v5 v1).bind fun p1 =>
 (zq288 p1 v6).bind fun y2 =>
 br y2.1
 (some (Sum.inl (((v1,()),()),((v2,()),v3,v4,v5,(v6,()),()))))
 (req (i64ok (v1 + 1)) <|
 rec (((),(),(v0,()),(v1 + 1,()),()),((v2,()),v3,v4,v5,(v6,()),()))))
 (some (Sum.inr (((),((v2,()),v3,v4,v5,(v6,()),())))))
def zq299 (a0 : List Pf × List (List Ad)) (a1 : List Ls) (a2 : Int) (a3 : ByteArray) : Option (Int × Unit) :=
 (loopN zq293 FUEL (((()),(()),(lenL a1,()),(0,()),()),((a2,()),a0.2,a0.1,a1,(a3,()),()))).bind fun y1 =>
 sumC y1 (fun y2 =>
 some (y2.1.1.1,())) (fun y3 =>
 some ((-1),()))
def zq905 (a0 : Ls) (a1 : Int) : Option (Bool × Unit) :=
 some (decide (a0.upto < a1),())
abbrev lease_Live_slices_DeleteFunc___api_Lease_api_Lease__slices_IndexFunc___api_Lease_api_Lease__L2_A:=((Unit × Unit × (Int × Unit) × (Int × Unit) × Unit) × (List Ls × (Int × Unit) × List Ls × List Ls × List Ls × Unit))
abbrev lease_Live_slices_DeleteFunc___api_Lease_api_Lease__slices_IndexFunc___api_Lease_api_Lease__L2_B:=Option ((((Int × Unit) × Unit) × (List Ls × (Int × Unit) × List Ls × List Ls × List Ls × Unit)) ⊕ (Unit × (List Ls × (Int × Unit) × List Ls × List Ls × List Ls × Unit)))
def zq917 (rec : lease_Live_slices_DeleteFunc___api_Lease_api_Lease__slices_IndexFunc___api_Lease_api_Lease__L2_A → lease_Live_slices_DeleteFunc___api_Lease_api_Lease__slices_IndexFunc___api_Lease_api_Lease__L2_B) (x : lease_Live_slices_DeleteFunc___api_Lease_api_Lease__slices_IndexFunc___api_Lease_api_Lease__L2_A) : lease_Live_slices_DeleteFunc___api_Lease_api_Lease__slices_IndexFunc___api_Lease_api_Lease__L2_B :=
 let v0:=x.1.2.2.1.1
 let v1:=x.1.2.2.2.1.1
 let v2:=x.2.1
 let v3:=x.2.2.1.1
 let v4:=x.2.2.2.1
 let v5:=x.2.2.2.2.1
 let v6:=x.2.2.2.2.2.1
 br (decide (v1 < v0))
 (req (zq697 v1 (lenL v5)) <|
 (geti v5 v1).bind fun p1 =>
 (zq905 p1 v3).bind fun y2 =>
 br y2.1
 (some (Sum.inl (((v1,()),()),(v2,(v3,()),v4,v5,v6,()))))
 (req (i64ok (v1 + 1)) <|
 rec (((),(),(v0,()),(v1 + 1,()),()),(v2,(v3,()),v4,v5,v6,()))))
 (some (Sum.inr (((),(v2,(v3,()),v4,v5,v6,())))))
abbrev lease_Live_slices_DeleteFunc___api_Lease_api_Lease__L5_A:=((Unit × Unit × (Int × Unit) × (Int × Unit) × Unit) × (List Ls × (Int × Unit) × List Ls × List Ls × Unit))
abbrev lease_Live_slices_DeleteFunc___api_Lease_api_Lease__L5_B:=Option ((Unit × (Int × Unit) × Unit) × (List Ls × (Int × Unit) × List Ls × List Ls × Unit))
def zq911 (rec : lease_Live_slices_DeleteFunc___api_Lease_api_Lease__L5_A → lease_Live_slices_DeleteFunc___api_Lease_api_Lease__L5_B) (x : lease_Live_slices_DeleteFunc___api_Lease_api_Lease__L5_A) : lease_Live_slices_DeleteFunc___api_Lease_api_Lease__L5_B :=
 let v0:=x.1.2.2.1.1
 let v1:=x.1.2.2.2.1.1
 let v2:=x.2.1
 let v3:=x.2.2.1.1
 let v4:=x.2.2.2.1
 let v5:=x.2.2.2.2.1
 br (decide (v1 < lenL v5))
 (req (zq697 v1 (lenL v5)) <|
 (geti v5 v1).bind fun p1 =>
 (zq905 p1 v3).bind fun y2 =>
 br (!y2.1)
 (req (zq697 v0 (lenL v5)) <|
 (geti v5 v0).bind fun p3 =>
 req (i64ok (v0 + 1)) <|
 req (i64ok (v1 + 1)) <|
 rec (((),(),(v0 + 1,()),(v1 + 1,()),()),(v2,(v3,()),v4,seti v5 v0 p1,())))
 (req (i64ok (v1 + 1)) <|
 rec (((),(),(v0,()),(v1 + 1,()),()),(v2,(v3,()),v4,v5,()))))
 (some (((),(v0,()),()),(v2,(v3,()),v4,v5,())))
def zq923 (a0 : List Ls) (a1 : Int) : Option ((List Ls) × Unit) :=
 (zq1492 a0).bind fun y1 =>
 (loopN zq917 FUEL (((()),(()),(lenL y1.1,()),(0,()),()),(a0,(a1,()),([] : List Ls),y1.1,([] : List Ls),()))).bind fun y2 =>
 sumC y2 (fun y3 =>
 br (decide (y3.1.1.1 = (-1)))
 (some (y3.2.2.2.2.1,()))
 (req (i64ok (y3.1.1.1 + 1)) <|
 (loopN zq911 FUEL (((()),(()),(y3.1.1.1,()),(y3.1.1.1 + 1,()),()),(y3.2.1,(y3.2.2.1.1,()),y3.2.2.2.1,y3.2.2.2.2.1,()))).bind fun y4 =>
 req ((decide (0 ≤ y4.1.2.1.1)) && (decide (y4.1.2.1.1 ≤ lenL y4.2.2.2.2.1))) <|
 req ((decide (0 ≤ y4.1.2.1.1)) && (decide (y4.1.2.1.1 ≤ lenL (clrL y4.2.2.2.2.1 y4.1.2.1.1 (⟨(⟨false,0,0⟩ : Ad),(ByteArray.empty),0⟩ : Ls))))) <|
 some (subL (clrL y4.2.2.2.2.1 y4.1.2.1.1 (⟨(⟨false,0,0⟩ : Ad),(ByteArray.empty),0⟩ : Ls)) 0 y4.1.2.1.1,()))) (fun y5 =>
 some (y5.2.2.2.2.1,()))
def zq943 (a0 : Ls) (a1 : ByteArray) : Option (Bool × Unit) :=
 some (zq1672 .eql a0.who a1,())
def zq1268 (a0 : Pf) : Option (Ad × Unit) :=
 (zq1298 a0.ad a0.bits).bind fun y1 =>
 some ((⟨a0.ad.v6,aop .or .u64 a0.ad.hi y1.1.hi,aop .or .u64 a0.ad.lo y1.1.lo⟩ : Ad),())
def zq332 (a0 : Ad) : Option (Ad × Bool × Unit) :=
 (br a0.v6
 (some (decide (aop .add .u64 a0.lo 1 = 0)))
 (some false)).bind fun c1 =>
 br c1
 (some ((⟨a0.v6,aop .add .u64 a0.hi 1,aop .add .u64 a0.lo 1⟩ : Ad),!decide (aop .add .u64 a0.hi 1 = 0),()))
 (br a0.v6
 (both
 (dup 1 <|
 some ((⟨a0.v6,a0.hi,aop .add .u64 a0.lo 1⟩ : Ad),true,()))
 (some ((⟨a0.v6,a0.hi,aop .add .u64 a0.lo 1⟩ : Ad),true,())))
 (some ((⟨a0.v6,a0.hi,aop .add .u64 a0.lo 1⟩ : Ad),decide (aop .add .u64 a0.lo 1 < 4294967296),())))
abbrev slices_Index___api_Addr_api_Addr__L2_A:=((Unit × Unit × (Int × Unit) × (Int × Unit) × Unit) × (List Ad × (Ad × Unit) × Unit))
abbrev slices_Index___api_Addr_api_Addr__L2_B:=Option ((((Int × Unit) × Unit) × (List Ad × Unit)) ⊕ (Unit × (List Ad × Unit)))
def zq1501 (rec : slices_Index___api_Addr_api_Addr__L2_A → slices_Index___api_Addr_api_Addr__L2_B) (x : slices_Index___api_Addr_api_Addr__L2_A) : slices_Index___api_Addr_api_Addr__L2_B :=
 let v0:=x.1.2.2.1.1
 let v1:=x.1.2.2.2.1.1
 let v2:=x.2.1
 let v3:=x.2.2.1.1
 br (decide (v1 < v0))
 (req (zq697 v1 (lenL v2)) <|
 (geti v2 v1).bind fun p1 =>
 br (eqAd v3 p1)
 (some (Sum.inl (((v1,()),()),(v2,()))))
 (req (i64ok (v1 + 1)) <|
 rec (((),(),(v0,()),(v1 + 1,()),()),(v2,(v3,()),()))))
 (some (Sum.inr (((),(v2,())))))
def zq1508 (a0 : List Ad) (a1 : Ad) : Option (Int × Unit) :=
 (loopN zq1501 FUEL (((()),(()),(lenL a0,()),(0,()),()),(a0,(a1,()),()))).bind fun y1 =>
 sumC y1 (fun y2 =>
 some (y2.1.1.1,())) (fun y3 =>
 some ((-1),()))
def zq1497 (a0 : List Ad) (a1 : Ad) : Option (Bool × Unit) :=
 (zq1508 a0 a1).bind fun y1 =>
 some (decide (y1.1 ≥ 0),())
def zq269 (a0 : Ls) (a1 : Ad) : Option (Bool × Unit) :=
 some (eqAd a0.ad a1,())
abbrev m_lease_book__taken_slices_ContainsFunc___api_Lease_api_Lease__slices_IndexFunc___api_Lease_api_Lease__L2_A:=((Unit × Unit × (Int × Unit) × (Int × Unit) × Unit) × ((Bool × Int × Int × Int × Unit) × List Ad × List Ls × (Ad × Unit) × Unit))
abbrev m_lease_book__taken_slices_ContainsFunc___api_Lease_api_Lease__slices_IndexFunc___api_Lease_api_Lease__L2_B:=Option ((((Int × Unit) × Unit) × ((Bool × Int × Int × Int × Unit) × List Ad × List Ls × (Ad × Unit) × Unit)) ⊕ (Unit × ((Bool × Int × Int × Int × Unit) × List Ad × List Ls × (Ad × Unit) × Unit)))
def zq277 (rec : m_lease_book__taken_slices_ContainsFunc___api_Lease_api_Lease__slices_IndexFunc___api_Lease_api_Lease__L2_A → m_lease_book__taken_slices_ContainsFunc___api_Lease_api_Lease__slices_IndexFunc___api_Lease_api_Lease__L2_B) (x : m_lease_book__taken_slices_ContainsFunc___api_Lease_api_Lease__slices_IndexFunc___api_Lease_api_Lease__L2_A) : m_lease_book__taken_slices_ContainsFunc___api_Lease_api_Lease__slices_IndexFunc___api_Lease_api_Lease__L2_B :=
 let v0:=x.1.2.2.1.1
 let v1:=x.1.2.2.2.1.1
 let v2:=x.2.1.1
 let v3:=x.2.1.2.1
 let v4:=x.2.1.2.2.1
 let v5:=x.2.1.2.2.2.1
 let v6:=x.2.2.1
 let v7:=x.2.2.2.1
 let v8:=x.2.2.2.2.1.1
 br (decide (v1 < v0))
 (req (zq697 v1 (lenL v7)) <|
 (geti v7 v1).bind fun p1 =>
 (zq269 p1 v8).bind fun y2 =>
 br y2.1
 (some (Sum.inl (((v1,()),()),((v2,v3,v4,v5,()),v6,v7,(v8,()),()))))
 (req (i64ok (v1 + 1)) <|
 rec (((),(),(v0,()),(v1 + 1,()),()),((v2,v3,v4,v5,()),v6,v7,(v8,()),()))))
 (some (Sum.inr (((),((v2,v3,v4,v5,()),v6,v7,(v8,()),())))))
def zq283 (a0 : Pf) (a1 : List Ad) (a2 : List Ls) (a3 : Ad) : Option (Bool × Unit) :=
 (zq1497 a1 a3).bind fun y1 =>
 (br y1.1
 (some true)
 (((loopN zq277 FUEL (((()),(()),(lenL a2,()),(0,()),()),((a0.ad.v6,a0.ad.hi,a0.ad.lo,a0.bits,()),a1,a2,(a3,()),()))).bind fun y2 =>
 sumC y2 (fun y3 =>
 some (decide (y3.1.1.1 ≥ 0),())) (fun y4 =>
 some (false,()))).bind fun y5 =>
 some y5.1)).bind fun c2 =>
 some (c2,())
def zq948 (a0 : Ls) (a1 : Ls) : Option (Int × Unit) :=
 (zq349 a0.ad a1.ad).bind fun y1 =>
 some (y1.1,())
def zq839 : Option ((Pf × (List Ad) × Unit) × Unit) :=
 (zq834 8 30).bind fun y1 =>
 (zq861 8).bind fun y2 =>
 some ((y1.1,([y2.1] : List Ad),()),())
def zq894 (a0 : List Ls) (a1 : Int) : Option ((List Ls) × Int × Int × Unit) :=
 (zq879 a0 a1).bind fun y1 =>
 br (!decide (y1.1 = 0))
 (some (([] : List Ls),0,y1.1,()))
 ((zq923 a0 a1).bind fun y2 =>
 req (i64ok ((lenL a0) - (lenL y2.1))) <|
 some (y2.1,(lenL a0) - (lenL y2.1),0,()))
abbrev law_copiedState_L3_A:=((Unit × Unit × Unit × (Int × Unit) × Unit) × (List (List Ad) × List Pf × List Ls × (Int × Unit) × (Int × Unit) × (Int × Unit) × List Pf × List Ls × List Pf × List Ls × List (List Ad) × List (List Ad) × Unit))
abbrev law_copiedState_L3_B:=Option ((Unit × Unit × Unit) × (List (List Ad) × List Pf × List Ls × (Int × Unit) × (Int × Unit) × List Pf × List Ls × List Pf × List Ls × List (List Ad) × List (List Ad) × Unit))
def zq807 (rec : law_copiedState_L3_A → law_copiedState_L3_B) (x : law_copiedState_L3_A) : law_copiedState_L3_B :=
 let v0:=x.1.2.2.2.1.1
 let v1:=x.2.1
 let v2:=x.2.2.1
 let v3:=x.2.2.2.1
 let v4:=x.2.2.2.2.1.1
 let v5:=x.2.2.2.2.2.1.1
 let zz:=x.2.2.2.2.2.2
 let v6:=zz.1.1
 let v7:=zz.2.1
 let v8:=zz.2.2.1
 let v9:=zz.2.2.2.1
 let v10:=zz.2.2.2.2.1
 let v11:=zz.2.2.2.2.2.1
 let v12:=zz.2.2.2.2.2.2.1
 br (decide (v0 < lenL v2))
 (req (zq697 v0 (lenL v2)) <|
 req (zq697 v0 (lenL v2)) <|
 (geti v2 v0).bind fun p1 =>
 req (zq697 v0 (lenL v2)) <|
 req (zq697 v0 (lenL v2)) <|
 (geti v2 v0).bind fun p2 =>
 both
 (both
 (req (room (lenL ([] : List Ad)) (lenL (getL v1 v0))) <|
 req (room (lenL v9) (lenL ([p1] : List Pf))) <|
 req (i64ok (v0 + 1)) <|
 rec (((),(),(),(v0 + 1,()),()),(v1,v2,v3,(v4,()),(v5,()),(v6,()),v7,v8,v9 ++ ([p1] : List Pf),v10,v11,padL v9.length v12 ++ ([([] : List Ad) ++ (getL v1 v0)] : List (List Ad)),())))
 (both
 (req (room (lenL ([] : List Ad)) (lenL (getL v1 v0))) <|
 req (room (lenL v9) (lenL ([p1] : List Pf))) <|
 req (i64ok (v0 + 1)) <|
 rec (((),(),(),(v0 + 1,()),()),(v1,v2,v3,(v4,()),(v5,()),(v6,()),v7,v8,v9 ++ ([p1] : List Pf),v10,v11,padL v9.length v12 ++ ([([] : List Ad) ++ (getL v1 v0)] : List (List Ad)),())))
 (req (room (lenL ([] : List Ad)) (lenL (getL v1 v0))) <|
 dup 1 <|
 req (room (lenL v9) (lenL ([p1] : List Pf))) <|
 req (i64ok (v0 + 1)) <|
 rec (((),(),(),(v0 + 1,()),()),(v1,v2,v3,(v4,()),(v5,()),(v6,()),v7,v8,v9 ++ ([p1] : List Pf),v10,v11,padL v9.length v12 ++ ([([] : List Ad) ++ (getL v1 v0)] : List (List Ad)),())))))
 (both
 (both
 (req (room (lenL ([] : List Ad)) (lenL (getL v1 v0))) <|
 req (room (lenL v9) (lenL ([p1] : List Pf))) <|
 req (i64ok (v0 + 1)) <|
 rec (((),(),(),(v0 + 1,()),()),(v1,v2,v3,(v4,()),(v5,()),(v6,()),v7,v8,v9 ++ ([p1] : List Pf),v10,v11,padL v9.length v12 ++ ([([] : List Ad) ++ (getL v1 v0)] : List (List Ad)),())))
 (req (room (lenL ([] : List Ad)) (lenL (getL v1 v0))) <|
 dup 1 <|
 req (room (lenL v9) (lenL ([p1] : List Pf))) <|
 req (i64ok (v0 + 1)) <|
 rec (((),(),(),(v0 + 1,()),()),(v1,v2,v3,(v4,()),(v5,()),(v6,()),v7,v8,v9 ++ ([p1] : List Pf),v10,v11,padL v9.length v12 ++ ([([] : List Ad) ++ (getL v1 v0)] : List (List Ad)),()))))
 (req (room (lenL ([] : List Ad)) (lenL (getL v1 v0))) <|
 both
 (dup 1 <|
 req (room (lenL v9) (lenL ([p1] : List Pf))) <|
 req (i64ok (v0 + 1)) <|
 rec (((),(),(),(v0 + 1,()),()),(v1,v2,v3,(v4,()),(v5,()),(v6,()),v7,v8,v9 ++ ([p1] : List Pf),v10,v11,padL v9.length v12 ++ ([([] : List Ad) ++ (getL v1 v0)] : List (List Ad)),())))
 (req (room (lenL v9) (lenL ([p1] : List Pf))) <|
 req (i64ok (v0 + 1)) <|
 rec (((),(),(),(v0 + 1,()),()),(v1,v2,v3,(v4,()),(v5,()),(v6,()),v7,v8,v9 ++ ([p1] : List Pf),v10,v11,padL v9.length v12 ++ ([([] : List Ad) ++ (getL v1 v0)] : List (List Ad)),()))))))
 (some (((),(),()),(v1,v2,v3,(v5,()),(v6,()),v7,v8,v9,v10,v11,v12,())))
def zq815 (a0 : List Pf × List (List Ad)) (a1 : List Ls) (a2 : Int) : Option (((List Pf × List (List Ad)) × (List Ls) × Int × Unit) × Unit) :=
 both
 (dup 1 <|
 req (room (lenL ([] : List Ls)) (lenL a1)) <|
 (loopN zq807 FUEL (((()),(()),(()),(0,()),()),(a0.2,a0.1,a1,(a2,()),(0,()),(a2,()),([] : List Pf),([] : List Ls),([] : List Pf),([] : List Ls) ++ a1,([] : List (List Ad)),([] : List (List Ad)),()))).bind fun y1 =>
 some (((y1.2.2.2.2.2.2.2.2.1,y1.2.2.2.2.2.2.2.2.2.2.2.1),y1.2.2.2.2.2.2.2.2.2.1,y1.2.2.2.2.2.1.1,()),()))
 (req (room (lenL ([] : List Ls)) (lenL a1)) <|
 (loopN zq807 FUEL (((()),(()),(()),(0,()),()),(a0.2,a0.1,a1,(a2,()),(0,()),(a2,()),([] : List Pf),([] : List Ls),([] : List Pf),([] : List Ls) ++ a1,([] : List (List Ad)),([] : List (List Ad)),()))).bind fun y1 =>
 some (((y1.2.2.2.2.2.2.2.2.1,y1.2.2.2.2.2.2.2.2.2.2.2.1),y1.2.2.2.2.2.2.2.2.2.1,y1.2.2.2.2.2.1.1,()),()))
def zq35 (a0 : Ad) : Option (Int × Unit) :=
 (br (!a0.v6)
 (br (decide (a0.hi > 0))
 (some true)
 (some (decide (a0.lo > 4294967295))))
 (some false)).bind fun c1 =>
 br c1
 (some (3,()))
 (some (0,()))
def zq255 (a0 : Ad) : Option (Int × Unit) :=
 br a0.v6
 (some (128,()))
 (some (32,()))
def zq240 (a0 : Int) (a1 : Int) (a2 : Int) : Option (Bool × Unit) :=
 (br (decide (a0 ≥ a1))
 (some (decide (a0 ≤ a2)))
 (some false)).bind fun c1 =>
 some (c1,())
abbrev R_Bits_L3_A:=((Unit × Unit × (Int × Unit) × Unit) × ((Ad × Unit) × List Int × Unit))
abbrev R_Bits_L3_B:=Option ((Unit × Unit × Unit) × ((Ad × Unit) × List Int × Unit))
def zq18 (rec : R_Bits_L3_A → R_Bits_L3_B) (x : R_Bits_L3_A) : R_Bits_L3_B :=
 let v0:=x.1.2.2.1.1
 let v1:=x.2.1.1
 let v2:=x.2.2.1
 br (decide (v0 ≥ 0))
 (req (decide (0 ≤ v0)) <|
 req (room (lenL v2) (lenL ([convI .u8 (aop .add .u64 48 (aop .rem .u64 (aop .shr .u64 v1.hi v0) 2))] : List Int))) <|
 req (i64ok (v0 - 1)) <|
 rec (((),(),(v0 - 1,()),()),((v1,()),v2 ++ ([convI .u8 (aop .add .u64 48 (aop .rem .u64 (aop .shr .u64 v1.hi v0) 2))] : List Int),())))
 (some (((),(),()),((v1,()),v2,())))
abbrev R_Bits_L7_A:=((Unit × Unit × (Int × Unit) × Unit) × ((Ad × Unit) × List Int × Unit))
abbrev R_Bits_L7_B:=Option ((Unit × Unit × Unit) × ((Ad × Unit) × List Int × Unit))
def zq21 (rec : R_Bits_L7_A → R_Bits_L7_B) (x : R_Bits_L7_A) : R_Bits_L7_B :=
 let v0:=x.1.2.2.1.1
 let v1:=x.2.1.1
 let v2:=x.2.2.1
 br (decide (v0 ≥ 0))
 (req (decide (0 ≤ v0)) <|
 req (room (lenL v2) (lenL ([convI .u8 (aop .add .u64 48 (aop .rem .u64 (aop .shr .u64 v1.lo v0) 2))] : List Int))) <|
 req (i64ok (v0 - 1)) <|
 rec (((),(),(v0 - 1,()),()),((v1,()),v2 ++ ([convI .u8 (aop .add .u64 48 (aop .rem .u64 (aop .shr .u64 v1.lo v0) 2))] : List Int),())))
 (some (((),(),()),((v1,()),v2,())))
def zq29 (a0 : Ad) : Option (ByteArray × Unit) :=
 (loopN zq18 FUEL (((()),(()),(63,()),()),((a0,()),([] : List Int),()))).bind fun y1 =>
 (loopN zq21 FUEL (((()),(()),(63,()),()),((y1.2.1.1,()),y1.2.2.1,()))).bind fun y2 =>
 br (!y2.2.1.1.v6)
 (req ((decide (96 ≤ lenL y2.2.2.1)) && (decide (lenL y2.2.2.1 ≤ lenL y2.2.2.1))) <|
 some (zq458 (subL y2.2.2.1 96 (lenL y2.2.2.1)),()))
 (some (zq458 y2.2.2.1,()))
abbrev R_CheckPrefix_L8_A:=(((ByteArray × Unit) × (Int × Unit) × Unit) × Unit)
abbrev R_CheckPrefix_L8_B:=Option ((((Int × Unit) × Unit) × Unit) ⊕ (Unit × Unit))
def zq63 (rec : R_CheckPrefix_L8_A → R_CheckPrefix_L8_B) (x : R_CheckPrefix_L8_A) : R_CheckPrefix_L8_B :=
 let v0:=x.1.1.1
 let v1:=x.1.2.1.1
 br (decide (v1 < lenS v0))
 (req (zq697 v1 (lenS v0)) <|
 br (!decide (zq455 v0 v1 = 48))
 (some (Sum.inl (((4,()),()),())))
 (req (i64ok (v1 + 1)) <|
 rec (((v0,()),(v1 + 1,()),()),())))
 (some (Sum.inr (((),()))))
def zq71 (a0 : Pf) : Option (Int × Unit) :=
 (zq35 a0.ad).bind fun y1 =>
 br (!decide (y1.1 = 0))
 (some (y1.1,()))
 ((zq255 a0.ad).bind fun y2 =>
 (zq240 a0.bits 0 y2.1).bind fun y3 =>
 br (!y3.1)
 (some (3,()))
 ((zq29 a0.ad).bind fun y4 =>
 (loopN zq63 FUEL (((y4.1,()),(a0.bits,()),()),(()))).bind fun y5 =>
 sumC y5 (fun y6 =>
 some (y6.1.1.1,())) (fun y7 =>
 some (0,()))))
def zq161 (a0 : Pf) : Option (Bool × Unit) :=
 (zq255 a0.ad).bind fun y1 =>
 req (i64ok (y1.1 - a0.bits)) <|
 some (decide (y1.1 - a0.bits ≤ 4),())
def zq140 (a0 : Pf) (a1 : Ad) : Option (Bool × Unit) :=
 (br (beqB a0.ad.v6 a1.v6)
 ((zq29 a0.ad).bind fun y1 =>
 req ((decide (0 ≤ a0.bits)) && (decide (a0.bits ≤ lenS y1.1))) <|
 (zq29 a1).bind fun y2 =>
 req ((decide (0 ≤ a0.bits)) && (decide (a0.bits ≤ lenS y2.1))) <|
 some (zq1672 .eql (subS y1.1 0 a0.bits) (subS y2.1 0 a0.bits)))
 (some false)).bind fun c1 =>
 some (c1,())
abbrev R_IsAhead_L5_A:=(((ByteArray × Unit) × (ByteArray × Unit) × (Int × Unit) × Unit) × Unit)
abbrev R_IsAhead_L5_B:=Option ((((Bool × Unit) × Unit) × Unit) ⊕ (Unit × Unit))
def zq147 (rec : R_IsAhead_L5_A → R_IsAhead_L5_B) (x : R_IsAhead_L5_A) : R_IsAhead_L5_B :=
 let v0:=x.1.1.1
 let v1:=x.1.2.1.1
 let v2:=x.1.2.2.1.1
 br (decide (v2 < lenS v0))
  (req (zq697 v2 (lenS v0)) <|
  req (zq697 v2 (lenS v1)) <|
  br (!decide (zq455 v0 v2 = zq455 v1 v2))
   (req (zq697 v2 (lenS v0)) <|
   req (zq697 v2 (lenS v1)) <|
   some (Sum.inl (((decide (zq455 v0 v2 < zq455 v1 v2),()),()),())))
   (req (i64ok (v2 + 1)) <|
   rec (((v0,()),(v1,()),(v2 + 1,()),()),())))
  (some (Sum.inr (((),()))))
def zq155 (a0 : Ad) (a1 : Ad) : Option (Bool × Unit) :=
 br (!(beqB a0.v6 a1.v6))
 (some (a1.v6,()))
 ((zq29 a0).bind fun y1 =>
 (zq29 a1).bind fun y2 =>
 (loopN zq147 FUEL (((y1.1,()),(y2.1,()),(0,()),()),(()))).bind fun y3 =>
 sumC y3 (fun y4 =>
 some (y4.1.1.1,())) (fun y5 =>
 some (false,())))
abbrev R_CheckPool_L7_A:=((Unit × (Int × Unit) × Unit) × (List Ad × (Bool × Int × Int × Int × Unit) × Unit))
abbrev R_CheckPool_L7_B:=Option ((((Int × Unit) × Unit) × (List Ad × Unit)) ⊕ (Unit × (List Ad × Unit)))
def zq54 (rec : R_CheckPool_L7_A → R_CheckPool_L7_B) (x : R_CheckPool_L7_A) : R_CheckPool_L7_B :=
 let v0:=x.1.2.1.1
 let v1:=x.2.1
 let v2:=x.2.2.1.1
 let v3:=x.2.2.1.2.1
 let v4:=x.2.2.1.2.2.1
 let v5:=x.2.2.1.2.2.2.1
 br (decide (v0 < lenL v1))
 (req (zq697 v0 (lenL v1)) <|
 (geti v1 v0).bind fun p1 =>
 (zq35 p1).bind fun y2 =>
 br (!decide (y2.1 = 0))
 (some (Sum.inl (((y2.1,()),()),(v1,()))))
 (req (zq697 v0 (lenL v1)) <|
 (geti v1 v0).bind fun p3 =>
 (zq140 (⟨(⟨v2,v3,v4⟩ : Ad),v5⟩ : Pf) p3).bind fun y4 =>
 br (!y4.1)
 (some (Sum.inl (((5,()),()),(v1,()))))
 ((br (decide (v0 > 0))
 (req (i64ok (v0 - 1)) <|
 req (zq697 (v0 - 1) (lenL v1)) <|
 (geti v1 (v0 - 1)).bind fun p5 =>
 req (zq697 v0 (lenL v1)) <|
 (geti v1 v0).bind fun p6 =>
 (zq155 p5 p6).bind fun y7 =>
 some (!y7.1))
 (some false)).bind fun c5 =>
 br c5
 (some (Sum.inl (((4,()),()),(v1,()))))
 (req (i64ok (v0 + 1)) <|
 rec (((),(v0 + 1,()),()),(v1,(v2,v3,v4,v5,()),()))))))
 (some (Sum.inr (((),(v1,())))))
def zq62 (a0 : Pf) (a1 : List Ad) : Option (Int × Unit) :=
 (zq71 a0).bind fun y1 =>
 br (!decide (y1.1 = 0))
 (some (y1.1,()))
 ((zq161 a0).bind fun y2 =>
 (br (!y2.1)
 (some true)
 (some (decide (lenL a1 > 6)))).bind fun c3 =>
 br c3
 (some (2,()))
 ((loopN zq54 FUEL (((()),(0,()),()),(a1,(a0.ad.v6,a0.ad.hi,a0.ad.lo,a0.bits,()),()))).bind fun y4 =>
 sumC y4 (fun y5 =>
 some (y5.1.1.1,())) (fun y6 =>
 some (0,()))))
def zq198 (a0 : Pf) (a1 : Pf) : Option (Bool × Unit) :=
 br (!(eqAd a0.ad a1.ad))
 ((zq155 a0.ad a1.ad).bind fun y1 =>
 some (y1.1,()))
 (some (decide (a0.bits < a1.bits),()))
def zq146 (a0 : Pf) (a1 : Pf) : Option (Bool × Unit) :=
 (br (decide (a0.bits ≤ a1.bits))
 ((zq140 a0 a1.ad).bind fun y1 =>
 some y1.1)
 (some false)).bind fun c1 =>
 some (c1,())
def zq95 (a0 : Pf) (a1 : Pf) : Option (Bool × Unit) :=
 (zq146 a0 a1).bind fun y1 =>
 (br y1.1
 (some true)
 ((zq146 a1 a0).bind fun y2 =>
 some y2.1)).bind fun c2 =>
 some (c2,())
abbrev R_IsWho_L2_A:=(((ByteArray × Unit) × (Int × Unit) × Unit) × Unit)
abbrev R_IsWho_L2_B:=Option ((((Bool × Unit) × Unit) × Unit) ⊕ (((ByteArray × Unit) × Unit) × Unit))
def zq162 (rec : R_IsWho_L2_A → R_IsWho_L2_B) (x : R_IsWho_L2_A) : R_IsWho_L2_B :=
 let v0:=x.1.1.1
 let v1:=x.1.2.1.1
 br (decide (v1 < lenS v0))
 (req (zq697 v1 (lenS v0)) <|
 (zq240 (convI .i64 (zq455 v0 v1)) 97 122).bind fun y1 =>
 (br (!y1.1)
 (req (zq697 v1 (lenS v0)) <|
 (zq240 (convI .i64 (zq455 v0 v1)) 48 57).bind fun y2 =>
 some (!y2.1))
 (some false)).bind fun c2 =>
 br c2
 (some (Sum.inl (((false,()),()),())))
 (req (i64ok (v1 + 1)) <|
 rec (((v0,()),(v1 + 1,()),()),())))
 (some (Sum.inr ((((v0,()),()),()))))
def zq170 (a0 : ByteArray) : Option (Bool × Unit) :=
 (loopN zq162 FUEL (((a0,()),(0,()),()),(()))).bind fun y1 =>
 sumC y1 (fun y2 =>
 some (y2.1.1.1,())) (fun y3 =>
 (zq240 (lenS y3.1.1.1) 1 8).bind fun y4 =>
 some (y4.1,()))
abbrev R_CheckLeases_L4_A:=((Unit × (Int × Unit) × (Int × Unit) × Unit) × (List Ls × Unit))
abbrev R_CheckLeases_L4_B:=Option ((((Int × Unit) × Unit) × (List Ls × Unit)) ⊕ ((Unit × (Int × Unit) × Unit) × (List Ls × Unit)))
def zq39 (rec : R_CheckLeases_L4_A → R_CheckLeases_L4_B) (x : R_CheckLeases_L4_A) : R_CheckLeases_L4_B :=
 let v0:=x.1.2.1.1
 let v1:=x.1.2.2.1.1
 let v2:=x.2.1
 br (decide (v1 < lenL v2))
 (req (zq697 v1 (lenL v2)) <|
 req (zq697 v1 (lenL v2)) <|
 (geti v2 v1).bind fun p1 =>
 (zq35 p1.ad).bind fun y2 =>
 br (!decide (y2.1 = 0))
 (some (Sum.inl (((y2.1,()),()),(v2,()))))
 (req (zq697 v1 (lenL v2)) <|
 req (zq697 v1 (lenL v2)) <|
 (geti v2 v1).bind fun p3 =>
 (zq170 p3.who).bind fun y4 =>
 br (!y4.1)
 (some (Sum.inl (((1,()),()),(v2,()))))
 (req (zq697 v1 (lenL v2)) <|
 req (zq697 v1 (lenL v2)) <|
 (geti v2 v1).bind fun p5 =>
 (zq240 p5.upto 0 10499).bind fun y6 =>
 br (!y6.1)
 (some (Sum.inl (((3,()),()),(v2,()))))
 (req (i64ok (v1 + 1)) <|
 rec (((),(v0,()),(v1 + 1,()),()),(v2,()))))))
 (some (Sum.inr ((((),(v0,()),()),(v2,())))))
abbrev R_CheckLeases_L14_A:=((Unit × (Int × Unit) × (Int × Unit) × Unit) × (List Ls × Unit))
abbrev R_CheckLeases_L14_B:=Option ((((Int × Unit) × Unit) × (List Ls × Unit)) ⊕ (((Int × Unit) × Unit) × (List Ls × Unit)))
def zq36 (rec : R_CheckLeases_L14_A → R_CheckLeases_L14_B) (x : R_CheckLeases_L14_A) : R_CheckLeases_L14_B :=
 let v0:=x.1.2.1.1
 let v1:=x.1.2.2.1.1
 let v2:=x.2.1
 br (decide (v1 < lenL v2))
 (req (i64ok (v1 - 1)) <|
 req (zq697 (v1 - 1) (lenL v2)) <|
 req (zq697 (v1 - 1) (lenL v2)) <|
 (geti v2 (v1 - 1)).bind fun p1 =>
 req (zq697 v1 (lenL v2)) <|
 req (zq697 v1 (lenL v2)) <|
 (geti v2 v1).bind fun p2 =>
 (zq155 p1.ad p2.ad).bind fun y3 =>
 br (!y3.1)
 (some (Sum.inl (((4,()),()),(v2,()))))
 (req (i64ok (v1 + 1)) <|
 rec (((),(v0,()),(v1 + 1,()),()),(v2,()))))
 (some (Sum.inr ((((v0,()),()),(v2,())))))
def zq47 (a0 : List Ls) (a1 : Int) : Option (Int × Unit) :=
 br (decide (lenL a0 > 20))
 (some (2,()))
 ((loopN zq39 FUEL (((()),(a1,()),(0,()),()),(a0,()))).bind fun y1 =>
 sumC y1 (fun y2 =>
 some (y2.1.1.1,())) (fun y3 =>
 (loopN zq36 FUEL (((()),(y3.1.2.1.1,()),(1,()),()),(y3.2.1,()))).bind fun y4 =>
 sumC y4 (fun y5 =>
 some (y5.1.1.1,())) (fun y6 =>
 (zq240 y6.1.1.1 0 9999).bind fun y7 =>
 br (!y7.1)
 (some (3,()))
 (some (0,())))))
abbrev R_PoolAt_L2_A:=((Unit × Unit × (Int × Unit) × Unit) × (List (List Ad) × List Pf × List Ls × (Int × Unit) × (Ad × Unit) × Unit))
abbrev R_PoolAt_L2_B:=Option ((((Int × Unit) × Unit) × (List (List Ad) × List Pf × List Ls × Unit)) ⊕ (Unit × (List (List Ad) × List Pf × List Ls × Unit)))
def zq184 (rec : R_PoolAt_L2_A → R_PoolAt_L2_B) (x : R_PoolAt_L2_A) : R_PoolAt_L2_B :=
 let v0:=x.1.2.2.1.1
 let v1:=x.2.1
 let v2:=x.2.2.1
 let v3:=x.2.2.2.1
 let v4:=x.2.2.2.2.1.1
 let v5:=x.2.2.2.2.2.1.1
 br (decide (v0 < lenL v2))
 (req (zq697 v0 (lenL v2)) <|
 req (zq697 v0 (lenL v2)) <|
 (geti v2 v0).bind fun p1 =>
 (zq140 p1 v5).bind fun y2 =>
 br y2.1
 (some (Sum.inl (((v0,()),()),(v1,v2,v3,()))))
 (req (i64ok (v0 + 1)) <|
 rec (((),(),(v0 + 1,()),()),(v1,v2,v3,(v4,()),(v5,()),()))))
 (some (Sum.inr (((),(v1,v2,v3,())))))
def zq192 (a0 : List Pf × List (List Ad)) (a1 : List Ls) (a2 : Int) (a3 : Ad) : Option (Int × Unit) :=
 (loopN zq184 FUEL (((()),(()),(0,()),()),(a0.2,a0.1,a1,(a2,()),(a3,()),()))).bind fun y1 =>
 sumC y1 (fun y2 =>
 some (y2.1.1.1,())) (fun y3 =>
 some ((-1),()))
abbrev R_WhoAt_L2_A:=((Unit × (ByteArray × Unit) × (Int × Unit) × Unit) × (List Ls × Unit))
abbrev R_WhoAt_L2_B:=Option ((((Int × Unit) × Unit) × (List Ls × Unit)) ⊕ (Unit × (List Ls × Unit)))
def zq226 (rec : R_WhoAt_L2_A → R_WhoAt_L2_B) (x : R_WhoAt_L2_A) : R_WhoAt_L2_B :=
 let v0:=x.1.2.1.1
 let v1:=x.1.2.2.1.1
 let v2:=x.2.1
 br (decide (v1 < lenL v2))
 (req (zq697 v1 (lenL v2)) <|
 req (zq697 v1 (lenL v2)) <|
 (geti v2 v1).bind fun p1 =>
 br (zq1672 .eql p1.who v0)
 (some (Sum.inl (((v1,()),()),(v2,()))))
 (req (i64ok (v1 + 1)) <|
 rec (((),(v0,()),(v1 + 1,()),()),(v2,()))))
 (some (Sum.inr (((),(v2,())))))
def zq234 (a0 : List Ls) (a1 : ByteArray) : Option (Int × Unit) :=
 (loopN zq226 FUEL (((()),(a1,()),(0,()),()),(a0,()))).bind fun y1 =>
 sumC y1 (fun y2 =>
 some (y2.1.1.1,())) (fun y3 =>
 some ((-1),()))
abbrev R_CheckState_L4_A:=((Unit × (Int × Unit) × Unit) × (List (List Ad) × List Pf × List Ls × (Int × Unit) × Unit))
abbrev R_CheckState_L4_B:=Option ((((Int × Unit) × Unit) × (List (List Ad) × List Pf × List Ls × Unit)) ⊕ ((Unit × Unit) × (List (List Ad) × List Pf × List Ls × (Int × Unit) × Unit)))
def zq81 (rec : R_CheckState_L4_A → R_CheckState_L4_B) (x : R_CheckState_L4_A) : R_CheckState_L4_B :=
 let v0:=x.1.2.1.1
 let v1:=x.2.1
 let v2:=x.2.2.1
 let v3:=x.2.2.2.1
 let v4:=x.2.2.2.2.1.1
 br (decide (v0 < lenL v2))
 (req (zq697 v0 (lenL v2)) <|
 (geti v2 v0).bind fun p1 =>
 (zq62 p1 (getL v1 v0)).bind fun y2 =>
 br (!decide (y2.1 = 0))
 (some (Sum.inl (((y2.1,()),()),(v1,v2,v3,()))))
 (req (i64ok (v0 + 1)) <|
 rec (((),(v0 + 1,()),()),(v1,v2,v3,(v4,()),()))))
 (some (Sum.inr ((((),()),(v1,v2,v3,(v4,()),())))))
abbrev R_CheckState_L13_A:=((Unit × (Int × Unit) × (Int × Unit) × Unit) × (List (List Ad) × List Pf × List Ls × (Int × Unit) × Unit))
abbrev R_CheckState_L13_B:=Option ((((Int × Unit) × Unit) × (List (List Ad) × List Pf × List Ls × Unit)) ⊕ ((Unit × (Int × Unit) × Unit) × (List (List Ad) × List Pf × List Ls × (Int × Unit) × Unit)))
def zq75 (rec : R_CheckState_L13_A → R_CheckState_L13_B) (x : R_CheckState_L13_A) : R_CheckState_L13_B :=
 let v0:=x.1.2.1.1
 let v1:=x.1.2.2.1.1
 let v2:=x.2.1
 let v3:=x.2.2.1
 let v4:=x.2.2.2.1
 let v5:=x.2.2.2.2.1.1
 br (decide (v1 < v0))
 (req (zq697 v1 (lenL v3)) <|
 req (zq697 v1 (lenL v3)) <|
 (geti v3 v1).bind fun p1 =>
 req (zq697 v0 (lenL v3)) <|
 req (zq697 v0 (lenL v3)) <|
 (geti v3 v0).bind fun p2 =>
 (zq198 p1 p2).bind fun y3 =>
 (br (!y3.1)
 (some true)
 (req (zq697 v1 (lenL v3)) <|
 req (zq697 v1 (lenL v3)) <|
 (geti v3 v1).bind fun p4 =>
 req (zq697 v0 (lenL v3)) <|
 req (zq697 v0 (lenL v3)) <|
 (geti v3 v0).bind fun p5 =>
 (zq95 p4 p5).bind fun y6 =>
 some y6.1)).bind fun c4 =>
 br c4
 (some (Sum.inl (((4,()),()),(v2,v3,v4,()))))
 (req (i64ok (v1 + 1)) <|
 rec (((),(v0,()),(v1 + 1,()),()),(v2,v3,v4,(v5,()),()))))
 (some (Sum.inr ((((),(v0,()),()),(v2,v3,v4,(v5,()),())))))
abbrev R_CheckState_L10_A:=((Unit × (Int × Unit) × Unit) × (List (List Ad) × List Pf × List Ls × (Int × Unit) × Unit))
abbrev R_CheckState_L10_B:=Option ((((Int × Unit) × Unit) × (List (List Ad) × List Pf × List Ls × Unit)) ⊕ ((Unit × Unit) × (List (List Ad) × List Pf × List Ls × (Int × Unit) × Unit)))
def zq72 (rec : R_CheckState_L10_A → R_CheckState_L10_B) (x : R_CheckState_L10_A) : R_CheckState_L10_B :=
 let v0:=x.1.2.1.1
 let v1:=x.2.1
 let v2:=x.2.2.1
 let v3:=x.2.2.2.1
 let v4:=x.2.2.2.2.1.1
 br (decide (v0 < lenL v2))
 ((loopN zq75 FUEL (((),(v0,()),(0,()),()),(v1,v2,v3,(v4,()),()))).bind fun y1 =>
 sumC y1 (fun y2 =>
 some (Sum.inl (((y2.1.1.1,()),()),(y2.2.1,y2.2.2.1,y2.2.2.2.1,())))) (fun y3 =>
 req (i64ok (y3.1.2.1.1 + 1)) <|
 rec (((),(y3.1.2.1.1 + 1,()),()),(y3.2.1,y3.2.2.1,y3.2.2.2.1,(y3.2.2.2.2.1.1,()),()))))
 (some (Sum.inr ((((),()),(v1,v2,v3,(v4,()),())))))
abbrev R_CheckState_L21_A:=((Unit × (Int × Unit) × (Int × Unit) × Unit) × (List (List Ad) × List Pf × List Ls × (Int × Unit) × Unit))
abbrev R_CheckState_L21_B:=Option (((Int × Unit) × Unit) × (List (List Ad) × List Pf × List Ls × Unit))
def zq78 (rec : R_CheckState_L21_A → R_CheckState_L21_B) (x : R_CheckState_L21_A) : R_CheckState_L21_B :=
 let v0:=x.1.2.1.1
 let v1:=x.1.2.2.1.1
 let v2:=x.2.1
 let v3:=x.2.2.1
 let v4:=x.2.2.2.1
 let v5:=x.2.2.2.2.1.1
 (br (decide (v1 < lenL v4))
 (some (decide (v0 = 0)))
 (some false)).bind fun c1 =>
 br c1
 (req (zq697 v1 (lenL v4)) <|
 req (zq697 v1 (lenL v4)) <|
 (geti v4 v1).bind fun p2 =>
 (zq192 (v3,v2) v4 v5 p2.ad).bind fun y3 =>
 br (decide (y3.1 < 0))
 (req (i64ok (v1 + 1)) <|
 rec (((),(5,()),(v1 + 1,()),()),(v2,v3,v4,(v5,()),())))
 (req (zq697 v1 (lenL v4)) <|
 req (zq697 v1 (lenL v4)) <|
 (geti v4 v1).bind fun p4 =>
 req ((decide (0 ≤ v1)) && (decide (v1 ≤ lenL v4))) <|
 (zq234 (subL v4 0 v1) p4.who).bind fun y5 =>
 br (decide (y5.1 ≥ 0))
 (req (i64ok (v1 + 1)) <|
 rec (((),(6,()),(v1 + 1,()),()),(v2,v3,v4,(v5,()),())))
 (req (zq697 v1 (lenL v4)) <|
 req (zq697 v1 (lenL v4)) <|
 (geti v4 v1).bind fun p6 =>
 br (decide (p6.upto < v5))
 (req (i64ok (v1 + 1)) <|
 rec (((),(4,()),(v1 + 1,()),()),(v2,v3,v4,(v5,()),())))
 (req (i64ok (v1 + 1)) <|
 rec (((),(v0,()),(v1 + 1,()),()),(v2,v3,v4,(v5,()),()))))))
 (some (((v0,()),()),(v2,v3,v4,())))
def zq89 (a0 : List Pf × List (List Ad)) (a1 : List Ls) (a2 : Int) : Option (Int × Unit) :=
 br (decide (lenL a0.1 > 3))
 (some (2,()))
 ((loopN zq81 FUEL (((()),(0,()),()),(a0.2,a0.1,a1,(a2,()),()))).bind fun y1 =>
 sumC y1 (fun y2 =>
 some (y2.1.1.1,())) (fun y3 =>
 (loopN zq72 FUEL (((()),(0,()),()),(y3.2.1,y3.2.2.1,y3.2.2.2.1,(y3.2.2.2.2.1.1,()),()))).bind fun y4 =>
 sumC y4 (fun y5 =>
 some (y5.1.1.1,())) (fun y6 =>
 (zq240 y6.2.2.2.2.1.1 0 9999).bind fun y7 =>
 br (!y7.1)
 (some (3,()))
 ((zq47 y6.2.2.2.1 y6.2.2.2.2.1.1).bind fun y8 =>
 (loopN zq78 FUEL (((()),(y8.1,()),(0,()),()),(y6.2.1,y6.2.2.1,y6.2.2.2.1,(y6.2.2.2.2.1.1,()),()))).bind fun y9 =>
 some (y9.1.1.1,())))))
def zq53 (a0 : Oq) : Option (Int × Unit) :=
 (zq240 a0.kind 1 5).bind fun y1 =>
 br (!y1.1)
 (some (7,()))
 ((br (!decide (a0.kind = 1))
 (some (!(eqPf a0.pf (⟨(⟨false,0,0⟩ : Ad),0⟩ : Pf))))
 (some false)).bind fun c2 =>
 (br c2
 (some true)
 (br (!decide (a0.kind = 2))
 (some (!(eqAd a0.ad (⟨false,0,0⟩ : Ad))))
 (some false))).bind fun c3 =>
 (br c3
 (some true)
 (br (!decide (a0.kind = 3))
 (br (!decide (a0.kind = 4))
 (some (zq1672 .neq a0.who (ByteArray.empty)))
 (some false))
 (some false))).bind fun c4 =>
 (br c4
 (some true)
 (br (!decide (a0.kind = 3))
 (some (!decide (a0.of_ = 0)))
 (some false))).bind fun c5 =>
 (br c5
 (some true)
 (br (!decide (a0.kind = 3))
 (br (!decide (a0.kind = 5))
 (some (!decide (a0.n = 0)))
 (some false))
 (some false))).bind fun c6 =>
 br c6
 (some (1,()))
 (br (decide (a0.kind = 1))
 ((zq71 a0.pf).bind fun y7 =>
 (br (decide (y7.1 = 0))
 ((zq161 a0.pf).bind fun y8 =>
 some (!y8.1))
 (some false)).bind fun c8 =>
 br c8
 (some (2,()))
 (some (y7.1,())))
 (br (decide (a0.kind = 2))
 ((zq35 a0.ad).bind fun y7 =>
 some (y7.1,()))
 ((br (decide (a0.kind < 5))
 ((zq170 a0.who).bind fun y7 =>
 some (!y7.1))
 (some false)).bind fun c7 =>
 br c7
 (some (1,()))
 ((br (decide (a0.kind = 3))
 ((zq240 a0.of_ 0 2).bind fun y8 =>
 br (!y8.1)
 (some true)
 ((zq240 a0.n 1 500).bind fun y9 =>
 some (!y9.1)))
 (some false)).bind fun c8 =>
 br c8
 (some (3,()))
 ((br (decide (a0.kind = 5))
 ((zq240 a0.n 0 9999).bind fun y9 =>
 some (!y9.1))
 (some false)).bind fun c9 =>
 br c9
 (some (3,()))
 (some (0,()))))))))
abbrev R_hasAddr_L2_A:=((Unit × Unit × (Int × Unit) × Unit) × (List Ad × (Ad × Unit) × Unit))
abbrev R_hasAddr_L2_B:=Option ((((Bool × Unit) × Unit) × (List Ad × Unit)) ⊕ (Unit × (List Ad × Unit)))
def zq241 (rec : R_hasAddr_L2_A → R_hasAddr_L2_B) (x : R_hasAddr_L2_A) : R_hasAddr_L2_B :=
 let v0:=x.1.2.2.1.1
 let v1:=x.2.1
 let v2:=x.2.2.1.1
 br (decide (v0 < lenL v1))
 (req (zq697 v0 (lenL v1)) <|
 (geti v1 v0).bind fun p1 =>
 br (eqAd p1 v2)
 (some (Sum.inl (((true,()),()),(v1,()))))
 (req (i64ok (v0 + 1)) <|
 rec (((),(),(v0 + 1,()),()),(v1,(v2,()),()))))
 (some (Sum.inr (((),(v1,())))))
def zq249 (a0 : List Ad) (a1 : Ad) : Option (Bool × Unit) :=
 (loopN zq241 FUEL (((()),(()),(0,()),()),(a0,(a1,()),()))).bind fun y1 =>
 sumC y1 (fun y2 =>
 some (y2.1.1.1,())) (fun y3 =>
 some (false,()))
abbrev R_LiveOf_L3_A:=((Unit × (Int × Unit) × Unit × (Int × Unit) × Unit) × (List Ls × List Ls × Unit))
abbrev R_LiveOf_L3_B:=Option ((Unit × Unit) × (List Ls × List Ls × Unit))
def zq171 (rec : R_LiveOf_L3_A → R_LiveOf_L3_B) (x : R_LiveOf_L3_A) : R_LiveOf_L3_B :=
 let v0:=x.1.2.1.1
 let v1:=x.1.2.2.2.1.1
 let v2:=x.2.1
 let v3:=x.2.2.1
 br (decide (v1 < lenL v2))
 (req (zq697 v1 (lenL v2)) <|
 req (zq697 v1 (lenL v2)) <|
 (geti v2 v1).bind fun p1 =>
 br (decide (p1.upto ≥ v0))
 (req (zq697 v1 (lenL v2)) <|
 (geti v2 v1).bind fun p2 =>
 req (room (lenL v3) (lenL ([p2] : List Ls))) <|
 req (i64ok (v1 + 1)) <|
 rec (((),(v0,()),(),(v1 + 1,()),()),(v2,v3 ++ ([p2] : List Ls),())))
 (req (i64ok (v1 + 1)) <|
 rec (((),(v0,()),(),(v1 + 1,()),()),(v2,v3,()))))
 (some (((),()),(v2,v3,())))
def zq179 (a0 : List Ls) (a1 : Int) : Option ((List Ls) × Unit) :=
 (loopN zq171 FUEL (((()),(a1,()),(()),(0,()),()),(a0,([] : List Ls),()))).bind fun y1 =>
 some (y1.2.2.1,())
abbrev R_AddrOf_L3_A:=(((ByteArray × Unit) × Unit × Unit × (Int × Unit) × Unit) × ((Ad × Unit) × (Ad × Unit) × Unit))
abbrev R_AddrOf_L3_B:=Option ((Unit × Unit × Unit) × ((Ad × Unit) × (Ad × Unit) × Unit))
def zq9 (rec : R_AddrOf_L3_A → R_AddrOf_L3_B) (x : R_AddrOf_L3_A) : R_AddrOf_L3_B :=
 let v0:=x.1.1.1
 let v1:=x.1.2.2.2.1.1
 let v2:=x.2.1.1
 let v3:=x.2.2.1.1
 br (decide (v1 < lenS v0))
 (req (zq697 v1 (lenS v0)) <|
 req (i64ok ((lenS v0) - v1)) <|
 br (decide ((lenS v0) - v1 > 64))
 (req (i64ok (v1 + 1)) <|
 rec (((v0,()),(),(),(v1 + 1,()),()),((v2,()),((⟨v3.v6,aop .add .u64 (aop .mul .u64 2 v3.hi) (convI .u64 (aop .sub .u8 (zq455 v0 v1) 48)),v3.lo⟩ : Ad),()),())))
 (req (i64ok (v1 + 1)) <|
 rec (((v0,()),(),(),(v1 + 1,()),()),((v2,()),((⟨v3.v6,v3.hi,aop .add .u64 (aop .mul .u64 2 v3.lo) (convI .u64 (aop .sub .u8 (zq455 v0 v1) 48))⟩ : Ad),()),()))))
 (some (((),(),()),((v2,()),(v3,()),())))
def zq17 (a0 : ByteArray) : Option (Ad × Unit) :=
 (loopN zq9 FUEL (((a0,()),(()),(()),(0,()),()),(((⟨false,0,0⟩ : Ad),()),((⟨decide (lenS a0 = 128),0,0⟩ : Ad),()),()))).bind fun y1 =>
 some (y1.2.2.1.1,())
abbrev R_SameLeases_L4_A:=((Unit × Unit × (Int × Unit) × Unit) × (List Ls × List Ls × Unit))
abbrev R_SameLeases_L4_B:=Option ((((Bool × Unit) × Unit) × (List Ls × List Ls × Unit)) ⊕ (Unit × (List Ls × List Ls × Unit)))
def zq208 (rec : R_SameLeases_L4_A → R_SameLeases_L4_B) (x : R_SameLeases_L4_A) : R_SameLeases_L4_B :=
 let v0:=x.1.2.2.1.1
 let v1:=x.2.1
 let v2:=x.2.2.1
 br (decide (v0 < lenL v1))
 (req (zq697 v0 (lenL v1)) <|
 (geti v1 v0).bind fun p1 =>
 req (zq697 v0 (lenL v2)) <|
 (geti v2 v0).bind fun p2 =>
 br (!(eqLs p1 p2))
 (some (Sum.inl (((false,()),()),(v1,v2,()))))
 (req (i64ok (v0 + 1)) <|
 rec (((),(),(v0 + 1,()),()),(v1,v2,()))))
 (some (Sum.inr (((),(v1,v2,())))))
def zq216 (a0 : List Ls) (a1 : List Ls) : Option (Bool × Unit) :=
 br (!decide (lenL a0 = lenL a1))
 (some (false,()))
 ((loopN zq208 FUEL (((()),(()),(0,()),()),(a0,a1,()))).bind fun y1 =>
 sumC y1 (fun y2 =>
 some (y2.1.1.1,())) (fun y3 =>
 some (true,())))
abbrev R_SameAddrs_L4_A:=((Unit × Unit × (Int × Unit) × Unit) × (List Ad × List Ad × Unit))
abbrev R_SameAddrs_L4_B:=Option ((((Bool × Unit) × Unit) × (List Ad × List Ad × Unit)) ⊕ (Unit × (List Ad × List Ad × Unit)))
def zq199 (rec : R_SameAddrs_L4_A → R_SameAddrs_L4_B) (x : R_SameAddrs_L4_A) : R_SameAddrs_L4_B :=
 let v0:=x.1.2.2.1.1
 let v1:=x.2.1
 let v2:=x.2.2.1
 br (decide (v0 < lenL v1))
 (req (zq697 v0 (lenL v1)) <|
 (geti v1 v0).bind fun p1 =>
 req (zq697 v0 (lenL v2)) <|
 (geti v2 v0).bind fun p2 =>
 br (!(eqAd p1 p2))
 (some (Sum.inl (((false,()),()),(v1,v2,()))))
 (req (i64ok (v0 + 1)) <|
 rec (((),(),(v0 + 1,()),()),(v1,v2,()))))
 (some (Sum.inr (((),(v1,v2,())))))
def zq207 (a0 : List Ad) (a1 : List Ad) : Option (Bool × Unit) :=
 br (!decide (lenL a0 = lenL a1))
 (some (false,()))
 ((loopN zq199 FUEL (((()),(()),(0,()),()),(a0,a1,()))).bind fun y1 =>
 sumC y1 (fun y2 =>
 some (y2.1.1.1,())) (fun y3 =>
 some (true,())))
abbrev R_SameState_L4_A:=((Unit × Unit × (Int × Unit) × Unit) × (List (List Ad) × List Pf × List Ls × List (List Ad) × List Pf × List Ls × (Int × Unit) × (Int × Unit) × Unit))
abbrev R_SameState_L4_B:=Option ((((Bool × Unit) × Unit) × (List (List Ad) × List Pf × List Ls × List (List Ad) × List Pf × List Ls × Unit)) ⊕ (Unit × (List (List Ad) × List Pf × List Ls × List (List Ad) × List Pf × List Ls × Unit)))
def zq217 (rec : R_SameState_L4_A → R_SameState_L4_B) (x : R_SameState_L4_A) : R_SameState_L4_B :=
 let v0:=x.1.2.2.1.1
 let v1:=x.2.1
 let v2:=x.2.2.1
 let v3:=x.2.2.2.1
 let zz:=x.2.2.2.2
 let v4:=zz.1
 let v5:=zz.2.1
 let v6:=zz.2.2.1
 let v7:=zz.2.2.2.1.1
 let v8:=zz.2.2.2.2.1.1
 br (decide (v0 < lenL v2))
 (req (zq697 v0 (lenL v2)) <|
 req (zq697 v0 (lenL v2)) <|
 (geti v2 v0).bind fun p1 =>
 req (zq697 v0 (lenL v5)) <|
 req (zq697 v0 (lenL v5)) <|
 (geti v5 v0).bind fun p2 =>
 (br (!(eqPf p1 p2))
 (some true)
 (req (zq697 v0 (lenL v2)) <|
 req (zq697 v0 (lenL v2)) <|
 (geti v2 v0).bind fun p3 =>
 req (zq697 v0 (lenL v5)) <|
 req (zq697 v0 (lenL v5)) <|
 (geti v5 v0).bind fun p4 =>
 (zq207 (getL v1 v0) (getL v4 v0)).bind fun y5 =>
 some (!y5.1))).bind fun c3 =>
 br c3
 (some (Sum.inl (((false,()),()),(v1,v2,v3,v4,v5,v6,()))))
 (req (i64ok (v0 + 1)) <|
 rec (((),(),(v0 + 1,()),()),(v1,v2,v3,v4,v5,v6,(v7,()),(v8,()),()))))
 (some (Sum.inr (((),(v1,v2,v3,v4,v5,v6,())))))
def zq225 (a0 : List Pf × List (List Ad)) (a1 : List Ls) (a2 : Int) (a3 : List Pf × List (List Ad)) (a4 : List Ls) (a5 : Int) : Option (Bool × Unit) :=
 (br (!decide (a2 = a5))
 (some true)
 (some (!decide (lenL a0.1 = lenL a3.1)))).bind fun c1 =>
 (br c1
 (some true)
 ((zq216 a1 a4).bind fun y2 =>
 some (!y2.1))).bind fun c2 =>
 br c2
 (some (false,()))
 ((loopN zq217 FUEL (((()),(()),(0,()),()),(a0.2,a0.1,a1,a3.2,a3.1,a4,(a2,()),(a5,()),()))).bind fun y3 =>
 sumC y3 (fun y4 =>
 some (y4.1.1.1,())) (fun y5 =>
 some (true,())))
def zq856 (a0 : List Pf × List (List Ad)) (a1 : List Ls) (a2 : Int) (a3 : Int) (a4 : Int) (a5 : List Pf × List (List Ad)) (a6 : List Ls) (a7 : Int) : Option (Bool × Unit) :=
 br (!decide (a4 = 0))
 ((br (decide (a3 = a4))
 ((zq225 a0 a1 a2 (([] : List Pf),([] : List (List Ad))) ([] : List Ls) 0).bind fun y1 =>
 some y1.1)
 (some false)).bind fun c1 =>
 some (c1,()))
 ((br (decide (a3 = a4))
 ((zq225 a0 a1 a2 a5 a6 a7).bind fun y1 =>
 some y1.1)
 (some false)).bind fun c1 =>
 some (c1,()))
end Go.Ma
namespace Go.Ma
open Go
theorem zq336 (a : Ad) : zq338 a = some (chkA a,()):=by
 unfold zq338 chkA
 cases hv : a.v6 <;> by_cases h1 : a.hi = 0 <;> by_cases h2 : a.lo ≥ 4294967296 <;> simp [zq445,zq443,h1,h2]
theorem zq33 {a : Ad} (h : a.In) : zq35 a = some (chkA a,()):=by
 have h0:=h.1.1
 unfold zq35 chkA
 cases hv : a.v6 <;> by_cases h1 : a.hi > 0 <;> by_cases h2 : a.lo > 4294967295
 all_goals (simp [zq445,zq443,h1,h2];try omega)
theorem zq1735 (v : Bool) : wid v ≤ 128:=by cases v <;> decide
theorem zq1290 (a : Ad) : zq1292 a = some (((wid a.v6 : Nat) : Int),()):=by
 unfold zq1292
 cases a.v6 <;> rfl
theorem zq253 (a : Ad) : zq255 a = some (((wid a.v6 : Nat) : Int),()):=by
 unfold zq255
 cases a.v6 <;> rfl
theorem zq238 (x a b : Int) : zq240 x a b = some (betw x a b,()):=by
 unfold zq240
 rw [br_ss,zq415,zq412]
theorem zq1296 (a : Ad) (bits : Int) (hb : 0 ≤ bits) (hb' : bits ≤ (wid a.v6 : Nat)) : zq1298 a bits = some (maskA a.v6 bits,()):=by
 unfold zq1298
 rw [zq1290,zq415,zq1036]
 have hw:=zq1735 a.v6
 obtain ⟨r,hr⟩ : ∃ r : Nat,((wid a.v6 : Nat) : Int) - bits = (r : Int):=⟨(((wid a.v6 : Nat) : Int) - bits).toNat,by omega⟩
 have hrn : wid a.v6 - bits.toNat = r:=by omega
 rw [hrn,hr]
 rw [zq1398 (zq693 (by omega) (by omega))]
 by_cases h1 : r < 64
 ·rw [decide_eq_true (show (r : Int) < 64 by omega),zq445,zq1398 (by simp),decide_eq_false (show ¬ (r : Int) > 64 by omega),zq443,zq1470 h1]
  rw [show r - 64 = 0 by omega,Nat.min_eq_left (by omega)]
  rfl
 ·rw [decide_eq_false (show ¬ (r : Int) < 64 by omega),zq443]
  by_cases h2 : r > 64
  ·rw [decide_eq_true (show (r : Int) > 64 by omega),zq445]
   by_cases h3 : r < 128
   ·rw [decide_eq_true (show (r : Int) < 128 by omega),zq445,zq1398 (zq693 (by omega) (by omega)),zq1398 (by simp;omega)]
    rw [show (r : Int) - 64 = ((r - 64 : Nat) : Int) by omega,zq1470 (by omega),Nat.min_eq_right (by omega)]
    rfl
   ·rw [decide_eq_false (show ¬ (r : Int) < 128 by omega),zq443]
    have : r = 128:=by omega
    subst this
    rfl
  ·have : r = 64:=by omega
   subst this
   rfl
theorem zq1254 (a : Ad) (h : a.wf) (bits : Int) (hb : 0 ≤ bits) (hb' : bits ≤ (wid a.v6 : Nat)) : zq1256 a bits = some (cutA a bits,()):=by
 unfold zq1256
 rw [zq1296 a bits hb hb',zq415,zq1036,zq515 a h]
 obtain ⟨h1,h2,h3,h4⟩:=h
 have hw:=zq1735 a.v6
 have e1:=zq377 a.hi.toNat (wid a.v6 - bits.toNat - 64) (by omega) (by omega)
 have e2:=zq377 a.lo.toNat (min (wid a.v6 - bits.toNat) 64) (by omega) (by omega)
 rw [Int.toNat_of_nonneg h1] at e1
 rw [Int.toNat_of_nonneg h3] at e2
 simp only
 rw [e1,e2]
theorem zq588 (a b : Ad) : eqAd a b = decide (a = b):=by
 have e : (a = b) ↔ (a.v6 = b.v6 ∧ a.hi = b.hi ∧ a.lo = b.lo):=by
  cases a;cases b
  simp only [Ad.mk.injEq]
 rw [Bool.eq_iff_iff,decide_eq_true_iff,e]
 unfold eqAd
 simp [beqB,acmp]
theorem zq595 (a b : Pf) : eqPf a b = decide (a = b):=by
 have e : (a = b) ↔ (a.ad.v6 = b.ad.v6 ∧ a.ad.hi = b.ad.hi ∧ a.ad.lo = b.ad.lo ∧ a.bits = b.bits):=by
  cases a with | mk a n => cases b with | mk b k =>
  cases a;cases b
  simp only [Pf.mk.injEq,Ad.mk.injEq,and_assoc]
 rw [Bool.eq_iff_iff,decide_eq_true_iff,e]
 unfold eqPf
 simp [beqB,acmp]
theorem zq1248 {p : Pf} (h : p.In) : zq1250 p = some (chkP p,()):=by
 unfold zq1250 chkP
 rw [zq336,zq415]
 by_cases h1 : chkA p.ad = 0
 ·simp only [h1,decide_true,zc10,zq443,ne_eq,not_true,if_false]
  rw [zq1290,zq415,br_ss,zq415]
  by_cases h2 : p.bits < 0 ∨ p.bits > wid p.ad.v6
  ·rw [if_pos h2]
   have : (bif decide (p.bits < 0) then true else decide (p.bits > ((wid p.ad.v6 : Nat) : Int))) = true:=by
    rcases h2 with h2 | h2 <;> simp [h2]
   rw [this,zq445]
  ·rw [if_neg h2]
   have : (bif decide (p.bits < 0) then true else decide (p.bits > ((wid p.ad.v6 : Nat) : Int))) = false:=by
    simp only [not_or] at h2
    simp [h2.1];omega
   rw [this,zq443,zq1254 p.ad h.1.wf p.bits (by omega) (by omega),zq415,zq588]
   by_cases h3 : cutA p.ad p.bits = p.ad <;> simp [h3,zq445,zq443]
 ·simp [h1,zq445]
end Go.Ma
namespace Go.Ma
open Go
def lowB (b : UInt8) : Bool:=betw (b.toNat : Int) 97 122 || betw (b.toNat : Int) 48 57
def whoOk (s : ByteArray) : Bool:=s.data.toList.all lowB && betw (lenS s) 1 8
theorem zq989 (x a b : Int) : zq991 x a b = some (betw x a b,()):=by
 unfold zq991
 rw [br_ss,zq415,zq412]
theorem zq977 {s : ByteArray} (h : strIn s) : zq979 s = some (whoOk s,()):=by
 have hs : s.size < 9223372036854775808:=zq1032 h
 have hl : ∀ i,i ≤ s.size → loopN zq971 FUEL (((s,()),(lenS s,()),((i : Int),()),()),()) = some (if (s.data.toList.drop i).all lowB then Sum.inr (((s,()),()),()) else Sum.inl ((((false : Bool),()),()),())):=by
  intro i hi
  refine zq1015 (fun i => ((((s,()),(lenS s,()),((i : Int),()),()),()) : (((ByteArray × Unit) × (Int × Unit) × (Int × Unit) × Unit) × (Unit)))) s.size (fun i => some (if (s.data.toList.drop i).all lowB then Sum.inr (((s,()),()),()) else Sum.inl ((((false : Bool),()),()),()))) (fun rec i hi hr => ?_) (fun rec => ?_) FUEL i hi (zq651 (by omega))
  ·obtain ⟨b,hb⟩ : ∃ b,s.data.toList[i]? = some b:=⟨_,zc0 (by rw [zq520];exact hi)⟩
   simp only [zq971]
   rw [decide_eq_true (show (i : Int) < lenS s by unfold lenS;omega),zq445,zq1398 (zq699 (by omega) (by unfold lenS;omega)),zq456 hb]
   rw [br_ss,zq415]
   simp only [br_ss,zq415]
   rw [show ((i : Int) + 1) = ((i + 1 : Nat) : Int) by omega] 
   rw [zq1398 (zq693 (by omega) (by omega)),hr,zq567 lowB hb]
   have : (bif !(bif decide ((b.toNat : Int) ≥ 97) then decide ((b.toNat : Int) ≤ 122) else false) then (bif decide ((b.toNat : Int) ≥ 48) then !decide ((b.toNat : Int) ≤ 57) else true) else false) = !lowB b:=by
    rw [zq412]
    unfold lowB
    cases betw (b.toNat : Int) 97 122
    ·unfold betw
     by_cases h1 : (48 : Int) ≤ b.toNat <;> simp [h1]
    ·rfl
   rw [this]
   cases lowB b <;> simp [zq445,zq443]
  ·simp only [zq971]
   rw [decide_eq_false (show ¬ (s.size : Int) < lenS s by unfold lenS;omega),zq443,zc18 (by rw [zq520];exact zc46 _)]
   rfl
 unfold zq979 whoOk
 have:=hl 0 (Nat.zero_le _)
 rw [List.drop_zero] at this
 rw [show ((0 : Nat) : Int) = 0 from rfl] at this
 rw [this,zq415]
 cases s.data.toList.all lowB
 ·rfl
 ·simp only [if_true,sumC,zq989,zq415,Bool.true_and]
theorem zq927 {p : Pf} (h : chkP p = 0) : zq929 p = some (decide (((wid p.ad.v6 : Nat) : Int) - p.bits ≤ 4),()):=by
 obtain ⟨h1,h2⟩:=zq485 h
 have:=zq1735 p.ad.v6
 unfold zq929
 rw [zq1290,zq415,zq1398 (zq693 (by simp only;omega) (by simp only;omega))]
end Go.Ma
namespace Go.Ma
open Go
theorem zq426 (n t c i : Nat) : (zq424 n t c)[i]? = if i < c then some (bitV n (t - i)) else none:=by
 unfold zq424
 rw [List.getElem?_map]
 by_cases h : i < c
 ·rw [List.getElem?_range h,if_pos h];rfl
 ·rw [if_neg h,List.getElem?_eq_none (by simpa using h)];rfl
theorem zq1095 (hi lo i : Nat) (hlo : lo < 18446744073709551616) : (hi * 18446744073709551616 + lo).testBit i = if i < 64 then lo.testBit i else hi.testBit (i - 64):=by
 have:=Nat.testBit_two_pow_mul_add (i:=64) hi (b:=lo) (by simpa using hlo) i
 rw [Nat.mul_comm,show (18446744073709551616 : Nat) = 2 ^ 64 by decide]
 exact this
theorem zq416 {n i m j : Nat} (h : n.testBit i = m.testBit j) : bitV n i = bitV m j:=by unfold bitV;rw [h]
theorem zq422 {a : Ad} (h : a.wf) (hc : chkA a = 0) : bitsA a = zq424 a.num (wid a.v6 - 1) (wid a.v6):=by
 obtain ⟨h1,h2,h3,h4⟩:=h
 have hlo : a.lo.toNat < 18446744073709551616:=by omega
 unfold bitsA Ad.num
 apply List.ext_getElem?
 intro i
 cases hv : a.v6
 ·unfold chkA at hc
  rw [hv] at hc
  have hz : a.hi = 0 ∧ ¬ (4294967296 : Int) ≤ a.lo:=by
   split at hc
   ·cases hc
   ·rename_i hn
    simp only [true_and,not_or,zc48] at hn
    exact hn
  simp only [zc16,if_false,wid]
  rw [zc38,zc12 (by rw [zq427];omega),zq427,zq426,zq426,hz.1]
  by_cases hi : i < 32
  ·rw [if_pos (by omega),if_pos hi]
   have e : 63 - (96 + i - 64) = 32 - 1 - i:=by omega
   rw [e]
   simp
  ·rw [if_neg (by omega),if_neg hi]
 ·simp only [if_true,wid]
  rw [zq426]
  by_cases hi : i < 64
  ·rw [zc6 (by rw [zq427];exact hi),zq426,if_pos hi,if_pos (by omega)]
   refine congrArg some (zq416 ?_)
   rw [zq1095 _ _ _ hlo,if_neg (by omega),show 128 - 1 - i - 64 = 63 - i by omega]
  ·rw [zc12 (by rw [zq427];omega),zq427,zq426]
   by_cases hi2 : i < 128
   ·rw [if_pos (by omega),if_pos hi2]
    refine congrArg some (zq416 ?_)
    rw [zq1095 _ _ _ hlo,if_pos (by omega),show 63 - (i - 64) = 128 - 1 - i by omega]
   ·rw [if_neg (by omega),if_neg hi2]
theorem zq417 (n i : Nat) : (bitV n i == 48) = !n.testBit i:=by unfold bitV;cases n.testBit i <;> rfl
theorem zq1063 (n k : Nat) : n % 2 ^ k = 0 ↔ ∀ i,i < k → n.testBit i = false:=by
 constructor
 ·intro h i hi
  have:=Nat.testBit_mod_two_pow n k i
  rw [h] at this
  simpa [hi] using this.symm
 ·intro h
  apply Nat.eq_of_testBit_eq
  intro i
  rw [Nat.testBit_mod_two_pow]
  by_cases hi : i < k <;> simp [hi,h]
theorem zq517 (n k : Nat) : cutN n k = n ↔ n % 2 ^ k = 0:=by
 unfold cutN
 have:=Nat.div_add_mod n (2 ^ k)
 rw [Nat.mul_comm] at this
 omega
theorem zq1680 (n w b : Nat) (hb : b ≤ w) : ((zq424 n (w - 1) w).drop b).all (· == 48) = decide (cutN n (w - b) = n):=by
 rw [Bool.eq_iff_iff,decide_eq_true_iff,zq517,zq1063,zc17]
 constructor
 ·intro h i hi
  have hm : bitV n i ∈ (zq424 n (w - 1) w).drop b:=by
   refine zc30.2 ⟨w - 1 - i - b,?_⟩
   rw [zc38,zq426,if_pos (by omega),show w - 1 - (b + (w - 1 - i - b)) = i by omega]
  have:=h _ hm
  rw [zq417] at this
  simpa using this
 ·intro h x hx
  obtain ⟨j,hj⟩:=zc30.1 hx
  rw [zc38,zq426] at hj
  split at hj
  ·injection hj with hj
   subst hj
   rw [zq417,h _ (by omega)]
   rfl
  ·cases hj
theorem zq514 {a : Ad} (h : a.wf) (bits : Int) : cutA a bits = a ↔ cutN a.num (wid a.v6 - bits.toNat) = a.num:=by
 unfold cutA
 constructor
 ·intro he
  have:=congrArg Ad.num he
  rwa [zq1094] at this
 ·intro he
  rw [he,zq1104 a h]
def toI (l : List UInt8) : List Int:=l.map fun b => (b.toNat : Int)
theorem zq1692 (l : List UInt8) : (toI l).length = l.length:=by simp [toI]
theorem zq459 (l : List UInt8) : zq458 (toI l) = zq1096 l:=by
 unfold zq458 toI zq1096
 congr 1
 rw [List.map_map]
 congr 1
 conv => rhs;rw [← List.map_id l]
 apply List.map_congr_left
 intro b _
 simp
theorem zq419 (x i : Int) (hx : 0 ≤ x) (hx' : x < 18446744073709551616) (hi : 0 ≤ i) (hi' : i ≤ 63) :
  convI .u8 (aop .add .u64 48 (aop .rem .u64 (aop .shr .u64 x i) 2)) = ((bitV x.toNat i.toNat).toNat : Int):=zq420 x i hx hx' hi hi'
theorem zq430 {a : Ad} (h : a.In) : loopN zq18 FUEL (((),(),(63,()),()),((a,()),([] : List Int),())) = some (((),(),()),((a,()),toI (zq424 a.hi.toNat 63 64),())):=by
 have:=zq1015 (step:=zq18) (fun j => (((),(),(63 - (j : Int),()),()),((a,()),toI (zq424 a.hi.toNat 63 j),()))) 64 (fun _ => some (((),(),()),((a,()),toI (zq424 a.hi.toNat 63 64),()))) (fun rec j hj hr => ?_) (fun rec => ?_) FUEL 0 (by omega) (zq651 (by omega))
 ·exact this
 ·simp only [zq18]
  rw [decide_eq_true (by omega),zq445,zq1400,zq419 _ _ h.1.1 h.1.2 (by omega) (by omega)]
  rw [zq1398 (zq1424 (zq993 _) (zq993 _) (by simp only [lenL,zq1692,zq427,zc21,zc32];omega)),zq1398 (zq693 (by omega) (by omega))]
  rw [← hr]
  have e1 : (63 - (j : Int)).toNat = 63 - j:=by omega
  have e2 : 63 - (j : Int) - 1 = 63 - ((j + 1 : Nat) : Int):=by omega
  rw [e1,e2,zq429]
  simp [toI]
 ·simp only [zq18]
  rw [decide_eq_false (by omega),zq443]
theorem zq431 {a : Ad} (h : a.In) : loopN zq21 FUEL (((),(),(63,()),()),((a,()),toI (zq424 a.hi.toNat 63 64),())) = some (((),(),()),((a,()),toI (zq424 a.hi.toNat 63 64) ++ toI (zq424 a.lo.toNat 63 64),())):=by
 have:=zq1015 (step:=zq21) (fun j => (((),(),(63 - (j : Int),()),()),((a,()),toI (zq424 a.hi.toNat 63 64) ++ toI (zq424 a.lo.toNat 63 j),()))) 64 (fun _ => some (((),(),()),((a,()),toI (zq424 a.hi.toNat 63 64) ++ toI (zq424 a.lo.toNat 63 64),()))) (fun rec j hj hr => ?_) (fun rec => ?_) FUEL 0 (by omega) (zq651 (by omega))
 ·rw [← this]
  simp [toI,zq424]
 ·simp only [zq21]
  rw [decide_eq_true (by omega),zq445,zq1400,zq419 _ _ h.2.1 h.2.2 (by omega) (by omega)]
  rw [zq1398 (zq1424 (zq993 _) (zq993 _) (by simp only [lenL,zc24,zq1692,zq427,zc21,zc32];omega)),zq1398 (zq693 (by omega) (by omega))]
  rw [← hr]
  have e1 : (63 - (j : Int)).toNat = 63 - j:=by omega
  have e2 : 63 - (j : Int) - 1 = 63 - ((j + 1 : Nat) : Int):=by omega
  rw [e1,e2,zq429 a.lo.toNat 63 j]
  simp [toI]
 ·simp only [zq21]
  rw [decide_eq_false (by omega),zq443]
theorem zq27 {a : Ad} (h : a.In) : zq29 a = some (zq1096 (bitsA a),()):=by
 unfold zq29 bitsA
 rw [zq430 h,zq415,zq431 h,zq415]
 have e : toI (zq424 a.hi.toNat 63 64) ++ toI (zq424 a.lo.toNat 63 64) = toI (zq424 a.hi.toNat 63 64 ++ zq424 a.lo.toNat 63 64):=by simp [toI]
 simp only [e]
 cases a.v6
 ·have hl : lenL (toI (zq424 a.hi.toNat 63 64 ++ zq424 a.lo.toNat 63 64)) = 128:=by simp only [lenL,zq1692,zc24,zq427];rfl
  rw [hl,zc19,zq445,zq1398 (by decide)]
  have : subL (toI (zq424 a.hi.toNat 63 64 ++ zq424 a.lo.toNat 63 64)) 96 128 = toI ((zq424 a.hi.toNat 63 64 ++ zq424 a.lo.toNat 63 64).drop 96):=by
   unfold subL
   rw [show (128 : Int).toNat = 128 from rfl,show (96 : Int).toNat = 96 from rfl,List.take_of_length_le (by rw [zq1692];simp [zq427])]
   simp [toI,List.map_drop]
  rw [this,zq459]
  rfl
 ·rw [zc10,zq443,zq459]
  rfl
theorem zq423 (a : Ad) : (bitsA a).length = wid a.v6:=by
 unfold bitsA wid
 cases a.v6 <;> simp [zq427]
theorem zq1097 (l : List UInt8) : (zq1096 l).data.toList = l:=by simp [zq1096]
theorem zq1098 (l : List UInt8) : (zq1096 l).size = l.length:=by simp [zq1096,ByteArray.size]
theorem zq1695 (b : UInt8) : ((b.toNat : Int) = 48) ↔ b = 48:=by
 constructor
 ·intro h
  apply UInt8.toNat_inj.1
  have : b.toNat = 48:=by omega
  rw [this]
  rfl
 ·rintro rfl;rfl
theorem zq494 (s : ByteArray) (k : Nat) (hs : s.size < 9223372036854775808) (hk : k ≤ s.size) : loopN zq63 FUEL (((s,()),((k : Int),()),()),()) = some (if (s.data.toList.drop k).all (· == 48) then Sum.inr ((),()) else Sum.inl (((4,()),()),())):=by
 refine zq1015 (step:=zq63) (fun i => (((s,()),((i : Int),()),()),())) s.size (fun i => some (if (s.data.toList.drop i).all (· == 48) then Sum.inr ((),()) else Sum.inl (((4,()),()),()))) (fun rec i hi hr => ?_) (fun rec => ?_) FUEL k hk (zq651 (by omega))
 ·obtain ⟨b,hb⟩ : ∃ b,s.data.toList[i]? = some b:=⟨_,zc0 (by rw [zq520];exact hi)⟩
  simp only [zq63]
  rw [decide_eq_true (show (i : Int) < lenS s by unfold lenS;omega),zq445,zq1398 (zq699 (by omega) (by unfold lenS;omega)),zq456 hb,zq567 _ hb]
  by_cases h48 : b = 48
  ·rw [decide_eq_true ((zq1695 b).2 h48),zc10,zq443,show ((i : Int) + 1) = ((i + 1 : Nat) : Int) by omega,zq1398 (zq693 (by omega) (by omega)),hr]
   simp [h48]
  ·rw [decide_eq_false (fun h => h48 ((zq1695 b).1 h)),zc19,zq445]
   simp [h48]
 ·simp only [zq63]
  rw [decide_eq_false (show ¬ (s.size : Int) < lenS s by unfold lenS;omega),zq443,zc18 (by rw [zq520];exact zc46 _)]
  rfl
theorem zq69 {p : Pf} (h : p.In) : zq71 p = some (chkP p,()):=by
 unfold zq71 chkP
 rw [zq33 h.1,zq415]
 by_cases h1 : chkA p.ad = 0
 rotate_left
 ·simp [h1,zq445]
 simp only [h1,decide_true,zc10,zq443,ne_eq,not_true,if_false]
 rw [zq253,zq415,zq238,zq415]
 by_cases h2 : p.bits < 0 ∨ p.bits > wid p.ad.v6
 ·rw [if_pos h2]
  have : betw p.bits 0 ((wid p.ad.v6 : Nat) : Int) = false:=by
   rw [Bool.eq_false_iff]
   intro hb
   have:=zq413.1 hb
   omega
  rw [this]
  rfl
 rw [if_neg h2]
 simp only [not_or] at h2
 have : betw p.bits 0 ((wid p.ad.v6 : Nat) : Int) = true:=zq413.2 ⟨by omega,by omega⟩
 rw [this]
 simp only [zc10,zq443]
 obtain ⟨k,hk⟩ : ∃ k : Nat,p.bits = (k : Int):=⟨p.bits.toNat,by omega⟩
 have hw:=zq1735 p.ad.v6
 rw [zq27 h.1,zq415,hk,zq494 _ _ (by rw [zq1098,zq423];omega) (by rw [zq1098,zq423];omega),zq415,zq1097,zq422 h.1.wf h1,zq1680 _ _ _ (by omega)]
 have e:=zq514 h.1.wf (k : Int)
 rw [Int.toNat_natCast] at e
 by_cases h3 : cutN p.ad.num (wid p.ad.v6 - k) = p.ad.num
 ·have h4:=e.2 h3
  simp only [h3,h4,decide_true,if_true,not_true,if_false]
  rfl
 ·have h4 : ¬ cutA p.ad (k : Int) = p.ad:=fun h => h3 (e.1 h)
  simp only [h3,h4,decide_false,zc16,not_false_eq_true,if_true,if_false]
  rfl
end Go.Ma
namespace Go.Ma
open Go
def lexLt : List UInt8 → List UInt8 → Bool
 | a :: r,b :: s => if a = b then lexLt r s else decide (a.toNat < b.toNat)
 | _,_ => false
theorem zq425 (n c : Nat) : zq424 n c (c + 1) = bitV n c :: zq424 n (c - 1) c:=by
 apply List.ext_getElem?
 intro i
 rw [zq426]
 cases i with
 | zero => simp
 | succ i =>
  rw [zc35,zq426]
  by_cases h : i < c
  ·rw [if_pos (by omega),if_pos h,show c - 1 - i = c - (i + 1) by omega]
  ·rw [if_neg (by omega),if_neg h]
theorem zq1062 (n c : Nat) : n % 2 ^ (c + 1) = n % 2 ^ c + 2 ^ c * (n.testBit c).toNat:=by
 rw [Nat.mod_pow_succ,Nat.testBit_eq_decide_div_mod_eq]
 have:=Nat.mod_lt (n / 2 ^ c) (show 0 < 2 by omega)
 generalize n / 2 ^ c % 2 = r at this ⊢
 match r,this with
 | 0,_ => rfl
 | 1,_ => rfl
theorem zq428 (n m : Nat) : ∀ c,lexLt (zq424 n (c - 1) c) (zq424 m (c - 1) c) = decide (n % 2 ^ c < m % 2 ^ c)
 | 0 => by simp [zq424,lexLt,Nat.mod_one]
 | c + 1 => by
  rw [show c + 1 - 1 = c from rfl,zq425,zq425,lexLt,zq428 n m c,zq1062,zq1062]
  have h1:=Nat.mod_lt n (Nat.two_pow_pos c)
  have h2:=Nat.mod_lt m (Nat.two_pow_pos c)
  generalize n % 2 ^ c = x at h1 ⊢
  generalize m % 2 ^ c = y at h2 ⊢
  generalize 2 ^ c = q at h1 h2 ⊢
  unfold bitV
  cases n.testBit c <;> cases m.testBit c
  ·simp
  ·simp;omega
  ·simp;omega
  ·simp
def lexO : List UInt8 → List UInt8 → ((((Bool × Unit) × Unit) × (Unit)) ⊕ ((Unit) × (Unit)))
 | a :: r,b :: s => if a = b then lexO r s else Sum.inl (((decide ((a.toNat : Int) < b.toNat),()),()),())
 | _,_ => Sum.inr ((),())
theorem zq994 : ∀ x y : List UInt8,sumC (lexO x y) (fun y4 => (some (y4.1.1.1,()) : Option (Bool × Unit))) (fun _ => some (false,())) = some (lexLt x y,())
 | [],_ => rfl
 | _ :: _,[] => rfl
 | a :: r,b :: s => by
  unfold lexO lexLt
  by_cases h : a = b
  ·rw [if_pos h,if_pos h,zq994 r s]
  ·rw [if_neg h,if_neg h]
   simp only [sumC]
   congr 2
   simp
theorem zq358 (x y : ByteArray) (hxy : x.size = y.size) (hs : x.size < 9223372036854775808) : loopN zq147 FUEL (((x,()),(y,()),(0,()),()),()) = some (lexO x.data.toList y.data.toList):=by
 have:=zq1015 (step:=zq147) (fun i => (((x,()),(y,()),((i : Int),()),()),())) x.size (fun i => some (lexO (x.data.toList.drop i) (y.data.toList.drop i))) (fun rec i hi hr => ?_) (fun rec => ?_) FUEL 0 (Nat.zero_le _) (zq651 (by omega))
 ·rw [List.drop_zero,List.drop_zero] at this
  exact this
 ·obtain ⟨b,hb⟩ : ∃ b,x.data.toList[i]? = some b:=⟨_,zc0 (by rw [zq520];exact hi)⟩
  obtain ⟨b',hb'⟩ : ∃ b,y.data.toList[i]? = some b:=⟨_,zc0 (by rw [zq520];omega)⟩
  have r1 : zq697 (i : Int) (lenS x) = true:=zq699 (by omega) (by unfold lenS;omega)
  have r2 : zq697 (i : Int) (lenS y) = true:=zq699 (by omega) (by unfold lenS;omega)
  simp only [zq147]
  rw [decide_eq_true (show (i : Int) < lenS x by unfold lenS;omega),zq445]
  simp only [r1,r2,zq1400,zq456 hb,zq456 hb']
  rw [zq568 hb,zq568 hb',lexO]
  by_cases h : b = b'
  ·rw [if_pos h,decide_eq_true (by rw [h]),zc10,zq443,show ((i : Int) + 1) = ((i + 1 : Nat) : Int) by omega,zq1398 (zq693 (by omega) (by omega)),hr]
  ·rw [if_neg h,decide_eq_false (fun e => h (UInt8.toNat_inj.1 (by omega))),zc19,zq445]
 ·simp only [zq147]
  rw [decide_eq_false (show ¬ (x.size : Int) < lenS x by unfold lenS;omega),zq443,zc18 (by rw [zq520];exact zc46 _)]
  rfl
def zq355 (a b : Ad) : Bool:=if a.v6 ≠ b.v6 then b.v6 else decide (a.num < b.num)
theorem zq153 {a b : Ad} (ha : a.In) (hb : b.In) (ca : chkA a = 0) (cb : chkA b = 0) : zq155 a b = some (zq355 a b,()):=by
 unfold zq155 zq355
 by_cases hv : a.v6 = b.v6
 ·have : beqB a.v6 b.v6 = true:=by simp [beqB,hv]
  rw [this,zc10,zq443,if_neg (fun h => h hv),zq27 ha,zq415,zq27 hb,zq415]
  have h1:=zq423 a
  have h2:=zq423 b
  have h3:=zq1735 a.v6
  rw [zq358 _ _ (by rw [zq1098,zq1098,h1,h2,hv]) (by rw [zq1098,h1];omega),zq415,zq1097,zq1097,zq994,zq422 ha.wf ca,zq422 hb.wf cb,← hv,zq428]
  have n1:=zq1421 a ⟨ha.wf,ca⟩
  have n2:=zq1421 b ⟨hb.wf,cb⟩
  rw [← hv] at n2
  rw [Nat.mod_eq_of_lt n1,Nat.mod_eq_of_lt n2]
 ·have : beqB a.v6 b.v6 = false:=by simp [beqB,hv]
  rw [this,zc19,zq445,if_pos hv]
theorem zq347 (a b : Ad) : zq349 a b = some (ordA a b,()):=by
 unfold zq349 zq343 ordA ordI
 by_cases hv : a.v6 = b.v6
 ·have : beqB a.v6 b.v6 = true:=by simp [beqB,hv]
  rw [this]
  simp only [zc10,zq443,zq415,hv,ne_eq,not_true,false_and,if_false]
  by_cases h1 : a.hi = b.hi
  ·simp only [h1,decide_true,zc10,zq443,not_true,if_false]
   by_cases h2 : a.lo < b.lo
   ·simp only [h2,decide_true,zq445,zq415,if_true]
   ·by_cases h3 : a.lo > b.lo
    ·simp only [h2,h3,decide_true,decide_false,zq445,zq443,zq415,if_true,if_false]
    ·simp only [h2,h3,decide_false,zq443,zq415,if_false]
  ·simp only [h1,decide_false,zc19,zq445,not_false_eq_true,if_true]
   by_cases h2 : a.hi < b.hi
   ·simp only [h2,decide_true,zq445,zq415,if_true]
   ·by_cases h3 : a.hi > b.hi
    ·simp only [h2,h3,decide_true,decide_false,zq445,zq443,zq415,if_true,if_false]
    ·simp only [h2,h3,decide_false,zq443,zq415,if_false]
 ·have : beqB a.v6 b.v6 = false:=by simp [beqB,hv]
  rw [this]
  cases hb : b.v6 <;> simp_all [zq445,zq443]
theorem zq484 {p : Pf} (h : chkP p = 0) : chkA p.ad = 0:=by
 unfold chkP at h
 split at h
 ·rename_i h1;exact absurd h h1
 ·rename_i h1;exact zc48.1 h1
theorem zq486 {p : Pf} (h : chkP p = 0) : cutA p.ad p.bits = p.ad:=by
 unfold chkP at h
 split at h
 ·rename_i h1;exact absurd h h1
 split at h
 ·cases h
 split at h
 ·cases h
 ·rename_i h1;exact zc48.1 h1
theorem zq1686 (n m w b : Nat) (hb : b ≤ w) : (zq424 n (w - 1) w).take b = (zq424 m (w - 1) w).take b ↔ ∀ i,w - b ≤ i → i < w → n.testBit i = m.testBit i:=by
 constructor
 ·intro h i h1 h2
  have:=congrArg (fun l : List UInt8 => l[w - 1 - i]?) h
  have h3 : w - 1 - i < b:=by omega
  have h4 : w - 1 - i < w:=by omega
  simp only [zc14,zq426,h3,h4,if_true,show w - 1 - (w - 1 - i) = i by omega] at this
  injection this with this
  unfold bitV at this
  cases hn : n.testBit i <;> cases hm : m.testBit i <;> rw [hn,hm] at this <;> first | rfl | (exfalso;revert this;decide)
 ·intro h
  apply List.ext_getElem?
  intro j
  simp only [zc14,zq426]
  by_cases hj : j < b
  ·rw [if_pos hj,if_pos (by omega),if_pos hj,if_pos (by omega),zq416 (h (w - 1 - j) (by omega) (by omega))]
  ·rw [if_neg hj,if_neg hj]
theorem zq516 (n m w b : Nat) (hb : b ≤ w) (hn : n < 2 ^ w) (hm : m < 2 ^ w) : cutN n (w - b) = cutN m (w - b) ↔ ∀ i,w - b ≤ i → i < w → n.testBit i = m.testBit i:=by
 unfold cutN
 have hp:=Nat.two_pow_pos (w - b)
 constructor
 ·intro h i h1 h2
  have:=congrArg (fun x => x.testBit i) h
  simp only [Nat.testBit_mul_two_pow,Nat.testBit_div_two_pow] at this
  simpa [h1,Nat.sub_add_cancel h1] using this
 ·intro h
  congr 1
  apply Nat.eq_of_testBit_eq
  intro i
  rw [Nat.testBit_div_two_pow,Nat.testBit_div_two_pow]
  by_cases hi : i + (w - b) < w
  ·exact h _ (by omega) hi
  ·have a1 : n.testBit (i + (w - b)) = false:=Nat.testBit_lt_two_pow (Nat.lt_of_lt_of_le hn (Nat.pow_le_pow_right (by omega) (by omega)))
   have a2 : m.testBit (i + (w - b)) = false:=Nat.testBit_lt_two_pow (Nat.lt_of_lt_of_le hm (Nat.pow_le_pow_right (by omega) (by omega)))
   rw [a1,a2]
theorem zq1260 {p : Pf} {a : Ad} (h1 : 0 ≤ p.bits) (h2 : p.bits ≤ (wid p.ad.v6 : Nat)) (ha : a.In) : zq1262 p a = some (holds p a,()):=by
 unfold zq1262 holds
 by_cases hv : p.ad.v6 = a.v6
 ·rw [show beqB p.ad.v6 a.v6 = true by simp [beqB,hv],zq445,zq1254 a ha.wf p.bits h1 (by rw [← hv];exact h2),zq415,zq415,zq588]
  simp [hv]
 ·rw [show beqB p.ad.v6 a.v6 = false by simp [beqB,hv],zq443,zq415]
  simp [hv]
theorem zq138 {p : Pf} {a : Ad} (hp : p.In) (cp : chkP p = 0) (ha : a.In) (ca : chkA a = 0) : zq140 p a = some (holds p a,()):=by
 obtain ⟨h1,h2⟩:=zq485 cp
 unfold zq140 holds
 by_cases hv : p.ad.v6 = a.v6
 rotate_left
 ·rw [show beqB p.ad.v6 a.v6 = false by simp [beqB,hv],zq443,zq415]
  simp [hv]
 have l1 : lenS (zq1096 (bitsA p.ad)) = (wid p.ad.v6 : Nat):=by unfold lenS;rw [zq1098,zq423]
 have l2 : lenS (zq1096 (bitsA a)) = (wid p.ad.v6 : Nat):=by unfold lenS;rw [zq1098,zq423,hv]
 rw [show beqB p.ad.v6 a.v6 = true by simp [beqB,hv],zq445,zq27 hp.1,zq415,zq27 ha,zq415]
 simp only [l1,l2,h1,h2,decide_true,Bool.and_self,zq1400,zq415,zq1673]
 have hs : ∀ l : List UInt8,subS (zq1096 l) 0 p.bits = zq1096 (l.take p.bits.toNat):=fun l => by
  apply ByteArray.ext
  simp [subS,zq1096,ByteArray.data_extract]
 have hi : ∀ l r : List UInt8,zq1096 l = zq1096 r ↔ l = r:=fun l r => by simp [zq1096]
 have n1:=zq1421 p.ad ⟨hp.1.wf,zq484 cp⟩
 have n2:=zq1421 a ⟨ha.wf,ca⟩
 rw [← hv] at n2
 have hb : p.bits.toNat ≤ wid p.ad.v6:=by omega
 have key : (subS (zq1096 (bitsA p.ad)) 0 p.bits = subS (zq1096 (bitsA a)) 0 p.bits) ↔ cutA a p.bits = p.ad:=by
  rw [hs,hs,hi,zq422 hp.1.wf (zq484 cp),zq422 ha.wf ca,← hv,zq1686 _ _ _ _ hb,← zq516 _ _ _ _ hb n1 n2]
  have hc:=(zq514 hp.1.wf p.bits).1 (zq486 cp)
  rw [hc]
  unfold cutA
  rw [← hv]
  constructor
  ·intro h
   rw [← h,zq1104 _ hp.1.wf]
  ·intro h
   have:=congrArg Ad.num h
   rw [zq1094] at this
   exact this.symm
 simp only [hv,beq_self_eq_true,Bool.true_and]
 congr 2
 exact decide_eq_decide.2 key
end Go.Ma
namespace Go.Ma
open Go
def rank (a : Ad) : Nat:=(if a.v6 then 340282366920938463463374607431768211456 else 0) + a.num
theorem zq1093 {a : Ad} (h : a.In) : a.num < 340282366920938463463374607431768211456:=by
 obtain ⟨⟨h1,h2⟩,h3,h4⟩:=h
 unfold Ad.num
 omega
theorem zq1181 {a b : Ad} (ha : a.In) (hb : b.In) : (ordA a b < 0 ↔ rank a < rank b) ∧ (ordA a b = 0 ↔ rank a = rank b):=by
 have h1:=zq1093 ha
 have h2:=zq1093 hb
 obtain ⟨⟨a1,a2⟩,a3,a4⟩:=ha
 obtain ⟨⟨b1,b2⟩,b3,b4⟩:=hb
 unfold ordA ordI rank
 unfold Ad.num at *
 cases hv : a.v6 <;> cases hw : b.v6 <;> simp
 ·by_cases h : a.hi = b.hi
  ·simp only [h,if_true]
   by_cases h3 : a.lo < b.lo
   ·simp only [h3,if_true];omega
   ·by_cases h4 : b.lo < a.lo
    ·simp only [h3,h4,if_true,if_false];omega
    ·have h5 : a.lo = b.lo:=by omega
     simp [h5]
  ·simp only [h,if_false]
   by_cases h3 : a.hi < b.hi
   ·simp only [h3,if_true];omega
   ·by_cases h4 : b.hi < a.hi
    ·simp only [h3,h4,if_true,if_false];omega
    ·simp only [h3,h4,if_false];omega
 ·omega
 ·omega
 ·by_cases h : a.hi = b.hi
  ·simp only [h,if_true]
   by_cases h3 : a.lo < b.lo
   ·simp only [h3,if_true];omega
   ·by_cases h4 : b.lo < a.lo
    ·simp only [h3,h4,if_true,if_false];omega
    ·have h5 : a.lo = b.lo:=by omega
     simp [h5]
  ·simp only [h,if_false]
   by_cases h3 : a.hi < b.hi
   ·simp only [h3,if_true];omega
   ·by_cases h4 : b.hi < a.hi
    ·simp only [h3,h4,if_true,if_false];omega
    ·simp only [h3,h4,if_false];omega
theorem zq361 {a b : Ad} (ha : a.In) (hb : b.In) : zq355 a b = decide (rank a < rank b):=by
 have h1:=zq1093 ha
 have h2:=zq1093 hb
 unfold zq355 rank
 cases hv : a.v6 <;> cases hw : b.v6 <;> simp
 ·omega
 ·omega
theorem zq1347 {a b : Ad} (ha : a.In) (hb : b.In) (h : rank a = rank b) : a = b:=by
 have h1:=zq1093 ha
 have h2:=zq1093 hb
 unfold rank at h
 have hv : a.v6 = b.v6:=by
  cases hv : a.v6 <;> cases hw : b.v6 <;> first | rfl | (exfalso;rw [hv,hw] at h;simp at h;omega)
 refine zq1092 ha.wf hb.wf hv ?_
 rw [hv] at h
 omega
def lsIn (l : List Ls) : Prop:=∀ x ∈ l,x.In
def chkLs (x : Ls) : Int:=if chkA x.ad ≠ 0 then chkA x.ad else if whoOk x.who = false then 1 else if betw x.upto 0 10499 = false then 3 else 0
def zq478 : List Ls → Int
 | [] => 0
 | x :: r => if chkLs x ≠ 0 then chkLs x else zq478 r
def ascF : Ad → List Ls → Bool
 | _,[] => true
 | a,x :: r => decide (ordA a x.ad < 0) && ascF x.ad r
def ascL : List Ls → Bool
 | [] => true
 | x :: r => ascF x.ad r
def allC (l : List Ls) (now : Int) : Int:=if l.length > 20 then 2 else if zq478 l ≠ 0 then zq478 l else if ascL l = false then 4 else if betw now 0 9999 = false then 3 else 0
theorem zq983 {x : Ls} (h : x.In) : zq985 x = some (chkLs x,()):=by
 unfold zq985 chkLs
 rw [zq336,zq415]
 by_cases hc : chkA x.ad = 0
 ·simp only [hc,decide_true,zc10,zq443,ne_eq,not_true,if_false]
  rw [zq977 h.2.1,zq415]
  cases whoOk x.who
  ·rfl
  ·simp only [zc10,zq443,Bool.true_eq_false,if_false]
   rw [zq989,zq415]
   cases betw x.upto 0 10499 <;> rfl
 ·simp only [hc,decide_false,zc19,zq445,ne_eq,not_false_eq_true,if_true]
def lsOut (l : List Ls) (now : Int) (r : Int) : (((Int × Unit) × Unit) × (List Ls × Unit)) ⊕ (((Unit) × (Int × Unit) × Unit) × (List Ls × Unit)):=if r = 0 then Sum.inr (((),(now,()),()),l,()) else Sum.inl (((r,()),()),l,())
def zq402 (l : List Ls) (now : Int) (r : Bool) : (((Int × Unit) × Unit) × (List Ls × Unit)) ⊕ (((Int × Unit) × Unit) × (List Ls × Unit)):=if r = true then Sum.inr (((now,()),()),l,()) else Sum.inl (((4,()),()),l,())
theorem zq1025 {l : List Ls} {now r : Int} (h : r ≠ 0) : lsOut l now r = Sum.inl (((r,()),()),l,()):=by rw [lsOut,if_neg h]
def ascAt (l : List Ls) (i : Nat) : Bool:=match l[i - 1]? with | some p => ascF p.ad (l.drop i) | none => true
theorem zq400 (l : List Ls) : ascAt l 1 = ascL l:=by cases l <;> rfl
theorem zq372 {l : List Ls} (h : lsIn l) (hlen : l.length ≤ 20) (now : Int) : loopN zq871 FUEL (((),(now,()),(),(lenL l,()),(0,()),()),(l,())) = some (lsOut l now (zq478 l)):=by
 have:=zq1015 (step:=zq871) (fun i => (((),(now,()),(),(lenL l,()),((i : Int),()),()),(l,()))) l.length (fun i => some (lsOut l now (zq478 (l.drop i)))) (fun rec i hi hr => ?_) (fun rec => ?_) FUEL 0 (Nat.zero_le _) (zq651 (by omega))
 ·exact this
 ·obtain ⟨e,he⟩ : ∃ e,l[i]? = some e:=⟨_,zc0 hi⟩
  simp only [zq871]
  rw [decide_eq_true (show (i : Int) < lenL l by unfold lenL;omega),zq445,zq1398 (zq699 (by omega) (by unfold lenL;omega)),zq657 he,zq415,zq983 (h e (zc5 he)),zq415,zq568 he,zq478]
  by_cases hc : chkLs e = 0
  ·rw [if_neg (fun h => h hc),decide_eq_true hc,zc10,zq443,show ((i : Int) + 1) = ((i + 1 : Nat) : Int) by omega,zq1398 (zq693 (by omega) (by omega)),hr]
  ·rw [if_pos hc,decide_eq_false hc,zc19,zq445,zq1025 hc]
 ·simp only [zq871]
  rw [decide_eq_false (show ¬ (l.length : Int) < lenL l by unfold lenL;omega),zq443,zc18 (zc46 _)]
  rfl
theorem zq373 {l : List Ls} (hlen : l.length ≤ 20) (now : Int) : loopN zq868 FUEL (((),(now,()),(1,()),()),(l,())) = some (zq402 l now (ascL l)):=by
 have:=zq1016 (step:=zq868) (fun i => (((),(now,()),((i : Int),()),()),(l,()))) (max 1 l.length) (fun i => some (zq402 l now (ascAt l i))) (fun i => 1 ≤ i) (fun rec i hi h1 hr => ?_) (fun rec h1 => ?_) FUEL 1 (by omega) (zc46 _) (zq651 (by omega))
 ·rw [zq400] at this
  exact this
 ·have hi' : i < l.length:=by omega
  obtain ⟨k,rfl⟩ : ∃ k,i = k + 1:=⟨i - 1,by omega⟩
  obtain ⟨e,he⟩ : ∃ e,l[k]? = some e:=⟨_,zc0 (by omega)⟩
  obtain ⟨e',he'⟩ : ∃ e,l[k + 1]? = some e:=⟨_,zc0 hi'⟩
  have r1 : zq697 ((k + 1 : Nat) : Int) (lenL l) = true:=zq699 (by omega) (by unfold lenL;omega)
  have r2 : zq697 (k : Int) (lenL l) = true:=zq699 (by omega) (by unfold lenL;omega)
  simp only [zq868]
  rw [decide_eq_true (show ((k + 1 : Nat) : Int) < lenL l by unfold lenL;omega),zq445,show (((k + 1 : Nat) : Int) - 1) = (k : Int) by omega,zq1398 (zq693 (by omega) (by omega))]
  simp only [r1,r2,zq1400,zq657 he,zq657 he',zq415,zq347]
  have ha : ascAt l (k + 1) = (decide (ordA e.ad e'.ad < 0) && ascAt l (k + 1 + 1)):=by
   unfold ascAt
   simp only [Nat.add_sub_cancel,he,he']
   rw [zq568 he',ascF]
  rw [ha]
  by_cases hc : ordA e.ad e'.ad < 0
  ·rw [decide_eq_false (show ¬ ordA e.ad e'.ad ≥ 0 by omega),zq443,show (((k + 1 : Nat) : Int) + 1) = ((k + 1 + 1 : Nat) : Int) by omega,zq1398 (zq693 (by omega) (by omega)),hr (by omega),decide_eq_true hc,Bool.true_and]
  ·rw [decide_eq_true (show ordA e.ad e'.ad ≥ 0 by omega),zq445,decide_eq_false hc,Bool.false_and]
   rfl
 ·simp only [zq868]
  rw [decide_eq_false (show ¬ ((max 1 l.length : Nat) : Int) < lenL l by unfold lenL;omega),zq443]
  have : ascAt l (max 1 l.length) = true:=by
   unfold ascAt
   rw [zc18 (by omega)]
   cases l[max 1 l.length - 1]? <;> rfl
  rw [this]
  rfl
theorem zq877 {l : List Ls} (h : lsIn l) (now : Int) : zq879 l now = some (allC l now,()):=by
 unfold zq879 allC
 by_cases hlen : l.length > 20
 ·rw [if_pos hlen,decide_eq_true (show lenL l > 20 by unfold lenL;omega),zq445]
 rw [if_neg hlen,decide_eq_false (show ¬ lenL l > 20 by unfold lenL;omega),zq443,zq372 h (by omega),zq415]
 by_cases hc : zq478 l = 0
 rotate_left
 ·rw [zq1025 hc,if_pos hc];rfl
 rw [if_neg (fun h => h hc),hc]
 simp only [lsOut,if_true,sumC]
 rw [zq373 (by omega),zq415]
 cases ascL l
 ·rfl
 ·simp only [zq402,if_true,sumC,Bool.true_eq_false,if_false,zq989,zq415]
  cases betw now 0 9999 <;> rfl
end Go.Ma
namespace Go.Ma
open Go
theorem zq508 (b : UInt8) : convI .i64 (b.toNat : Int) = (b.toNat : Int):=by
 have:=b.toNat_lt
 exact wrap_i64 (by omega) (by omega)
theorem zq168 {s : ByteArray} (h : strIn s) : zq170 s = some (whoOk s,()):=by
 have hs : s.size < 9223372036854775808:=zq1032 h
 have hl : loopN zq162 FUEL (((s,()),(0,()),()),()) = some (if (s.data.toList.drop 0).all lowB then Sum.inr (((s,()),()),()) else Sum.inl ((((false : Bool),()),()),())):=by
  refine zq1015 (step:=zq162) (fun i => (((s,()),((i : Int),()),()),())) s.size (fun i => some (if (s.data.toList.drop i).all lowB then Sum.inr (((s,()),()),()) else Sum.inl ((((false : Bool),()),()),()))) (fun rec i hi hr => ?_) (fun rec => ?_) FUEL 0 (Nat.zero_le _) (zq651 (by omega))
  ·obtain ⟨b,hb⟩ : ∃ b,s.data.toList[i]? = some b:=⟨_,zc0 (by rw [zq520];exact hi)⟩
   simp only [zq162]
   have hr1 : zq697 (i : Int) (lenS s) = true:=zq699 (by omega) (by unfold lenS;omega)
   rw [decide_eq_true (show (i : Int) < lenS s by unfold lenS;omega),zq445]
   simp only [hr1,zq1400,zq456 hb,zq508,zq238,zq415,br_sb]
   rw [show ((i : Int) + 1) = ((i + 1 : Nat) : Int) by omega,zq1398 (zq693 (by omega) (by omega)),hr,zq567 lowB hb]
   have : (bif !betw (b.toNat : Int) 97 122 then !betw (b.toNat : Int) 48 57 else false) = !lowB b:=by
    unfold lowB
    cases betw (b.toNat : Int) 97 122 <;> cases betw (b.toNat : Int) 48 57 <;> rfl
   rw [this]
   cases lowB b <;> simp [zq445,zq443]
  ·simp only [zq162]
   rw [decide_eq_false (show ¬ (s.size : Int) < lenS s by unfold lenS;omega),zq443,zc18 (by rw [zq520];exact zc46 _)]
   rfl
 unfold zq170 whoOk
 rw [hl,zq415,List.drop_zero]
 cases s.data.toList.all lowB
 ·rfl
 ·simp only [if_true,sumC,zq238,zq415,Bool.true_and]
theorem zq159 {p : Pf} (h : chkP p = 0) : zq161 p = some (decide (((wid p.ad.v6 : Nat) : Int) - p.bits ≤ 4),()):=by
 obtain ⟨h1,h2⟩:=zq485 h
 have:=zq1735 p.ad.v6
 unfold zq161
 rw [zq253,zq415,zq1398 (zq693 (by simp only;omega) (by simp only;omega))]
end Go.Ma
namespace Go.Ma
open Go
theorem zq594 (a b : Ls) : eqLs a b = decide (a = b):=by
 have e : (a = b) ↔ (a.ad.v6 = b.ad.v6 ∧ a.ad.hi = b.ad.hi ∧ a.ad.lo = b.ad.lo ∧ a.who = b.who ∧ a.upto = b.upto):=by
  cases a with | mk a1 w1 u1 => cases b with | mk a2 w2 u2 =>
  cases a1;cases a2
  simp only [Ls.mk.injEq,Ad.mk.injEq,and_assoc]
 rw [Bool.eq_iff_iff,decide_eq_true_iff,e]
 unfold eqLs
 simp [beqB,acmp,zq1673]
def zq603 {α : Type} (q : α → Bool) : List α → Option Nat
 | [] => none
 | x :: r => if q x then some 0 else (zq603 q r).map (· + 1)
theorem zq605 {α : Type} {q : α → Bool} {l : List α} {i : Nat} {x : α} (h : l[i]? = some x) : (zq603 q (l.drop i)).map (· + i) = if q x then some i else (zq603 q (l.drop (i + 1))).map (· + (i + 1)):=by
 rw [zq568 h,zq603]
 cases q x
 ·simp only [zc16,if_false,Option.map_map]
  congr 1
  funext k
  simp only [Function.comp]
  omega
 ·simp
theorem zq607 {α : Type} {q : α → Bool} : ∀ {l : List α},zq603 q l = none → ∀ x ∈ l,q x = false
 | [],_,x,hx => by cases hx
 | y :: r,h,x,hx => by
  unfold zq603 at h
  split at h
  ·cases h
  ·rename_i hq
   rw [Option.map_eq_none_iff] at h
   rcases zc28.1 hx with rfl | hx
   ·simpa using hq
   ·exact zq607 h x hx
theorem zq608 {α : Type} {q : α → Bool} : ∀ {l : List α} {k : Nat},zq603 q l = some k → ∃ x,l[k]? = some x ∧ q x = true ∧ ∀ y ∈ l.take k,q y = false
 | [],_,h => by cases h
 | y :: r,k,h => by
  unfold zq603 at h
  split at h
  ·rename_i hq
   cases h
   exact ⟨y,rfl,hq,fun z hz => by simp at hz⟩
  ·rename_i hq
   obtain ⟨k',hk,rfl⟩:=zc7.1 h
   obtain ⟨x,h1,h2,h3⟩:=zq608 hk
   refine ⟨x,by simpa using h1,h2,fun z hz => ?_⟩
   rw [List.take_succ_cons] at hz
   rcases zc28.1 hz with rfl | hz
   ·simpa using hq
   ·exact h3 z hz
theorem zq606 {α : Type} {q : α → Bool} {l : List α} {k : Nat} (h : zq603 q l = some k) : k < l.length:=by
 obtain ⟨x,h1,_⟩:=zq608 h
 exact (zc1.1 h1).1
theorem zq604 {α : Type} {q : α → Bool} : ∀ l : List α,(zq603 q l).isSome = l.any q
 | [] => rfl
 | x :: r => by
  unfold zq603
  cases h : q x
  ·simp [h,zq604 r]
  ·simp [h]
def idxI : Option Nat → Int
 | some k => (k : Int)
 | none => -1
def liveP (now : Int) (x : Ls) : Bool:=decide (now ≤ x.upto)
def live (l : List Ls) (now : Int) : List Ls:=l.filter (liveP now)
def overP (now : Int) (x : Ls) : Bool:=decide (x.upto < now)
theorem zq1190 (now : Int) (x : Ls) : overP now x = !liveP now x:=by
 unfold overP liveP
 by_cases h : x.upto < now
 ·have : ¬ now ≤ x.upto:=by omega
  simp [h,this]
 ·have : now ≤ x.upto:=by omega
  simp [h,this]
abbrev DL:=List Ls × (Int × Unit) × List Ls × List Ls × List Ls × Unit
def zq1188 (l : List Ls) (now : Int) : Option Nat → (((Int × Unit) × Unit) × DL) ⊕ ((Unit) × DL)
 | some k => Sum.inl ((((k : Int),()),()),(l,(now,()),[],l,[],()))
 | none => Sum.inr ((),(l,(now,()),[],l,[],()))
theorem zq1006 {l : List Ls} (hlen : l.length ≤ 1048576) (now : Int) : loopN zq917 FUEL (((),(),(lenL l,()),(0,()),()),(l,(now,()),[],l,[],())) = some (zq1188 l now (zq603 (overP now) l)):=by
 have:=zq1015 (step:=zq917) (fun i => (((),(),(lenL l,()),((i : Int),()),()),(l,(now,()),[],l,[],()))) l.length (fun i => some (zq1188 l now ((zq603 (overP now) (l.drop i)).map (· + i)))) (fun rec i hi hr => ?_) (fun rec => ?_) FUEL 0 (Nat.zero_le _) (zq651 (by omega))
 ·simpa using this
 ·obtain ⟨e,he⟩ : ∃ e,l[i]? = some e:=⟨_,zc0 hi⟩
  simp only [zq917]
  rw [decide_eq_true (show (i : Int) < lenL l by unfold lenL;omega),zq445,zq1398 (zq699 (by omega) (by unfold lenL;omega)),zq657 he,zq415,zq905,zq415,zq605 he]
  unfold overP
  by_cases hc : e.upto < now
  ·simp only [hc,decide_true,zq445,if_true]
   rfl
  ·simp only [hc,decide_false,zq443]
   rw [show ((i : Int) + 1) = ((i + 1 : Nat) : Int) by omega,zq1398 (zq693 (by omega) (by omega)),hr]
   rfl
 ·simp only [zq917]
  rw [decide_eq_false (show ¬ (l.length : Int) < lenL l by unfold lenL;omega),zq443,zc18 (zc46 _)]
  rfl
theorem zq1007 {l : List Ls} (hlen : l.length ≤ 1048576) (now : Int) : ∀ (N j w : Nat) (r : List Ls),l.length - j < N → j ≤ l.length → w < j → r.length = l.length → r.take w = live (l.take j) now → r.drop j = l.drop j →
  ∃ (w' : Nat) (r' : List Ls),loopN zq911 N (((),(),((w : Int),()),((j : Int),()),()),(l,(now,()),[],r,())) = some (((),((w' : Int),()),()),(l,(now,()),[],r',())) ∧ r'.take w' = live l now ∧ w' ≤ r'.length
 | 0,_,_,_,h,_,_,_,_,_ => by omega
 | N + 1,j,w,r,hN,hj,hw,hr,ht,hd => by
  rw [zq1010]
  simp only [zq911]
  by_cases hjl : j < l.length
  ·obtain ⟨e,he⟩ : ∃ e,l[j]? = some e:=⟨_,zc0 hjl⟩
   have her : r[j]? = some e:=by
    have:=congrArg (fun x : List Ls => x[0]?) hd
    simp only [zc38,Nat.add_zero] at this
    rw [this,he]
   have hlt : live (l.take (j + 1)) now = live (l.take j) now ++ (if liveP now e then [e] else []):=by
    unfold live
    have hx:=(zc1.1 he).2
    rw [zc26 hjl,List.filter_append,hx]
    congr 1
    simp only [List.filter_cons,List.filter_nil]
   have hd1 : r.drop (j + 1) = l.drop (j + 1):=by
    have:=congrArg (List.drop 1) hd
    simpa using this
   rw [decide_eq_true (show (j : Int) < lenL r by unfold lenL;omega),zq445,zq1398 (zq699 (by omega) (by unfold lenL;omega)),zq657 her,zq415,zq905,zq415]
   have ho:=zq1190 now e
   unfold overP at ho
   cases hp : liveP now e
   ·rw [hp] at ho hlt
    simp only [ho,zc19,zc10,zq443]
    rw [show ((j : Int) + 1) = ((j + 1 : Nat) : Int) by omega,zq1398 (zq693 (by omega) (by omega))]
    exact zq1007 hlen now N (j + 1) w r (by omega) (by omega) (by omega) hr (by rw [ht,hlt];simp) hd1
   ·rw [hp] at ho hlt
    obtain ⟨e2,he2⟩ : ∃ e,r[w]? = some e:=⟨_,zc0 (by omega)⟩
    simp only [ho,zc19,zc10,zq445]
    rw [zq1398 (zq699 (by omega) (by unfold lenL;omega)),zq657 he2,zq415,show ((j : Int) + 1) = ((j + 1 : Nat) : Int) by omega,show ((w : Int) + 1) = ((w + 1 : Nat) : Int) by omega,zq1398 (zq693 (by omega) (by omega)),zq1398 (zq693 (by omega) (by omega))]
    have hs : seti r (w : Int) e = r.set w e:=by simp [seti]
    rw [hs]
    refine zq1007 hlen now N (j + 1) (w + 1) (r.set w e) (by omega) (by omega) (by omega) (by simp [hr]) ?_ ?_
    ·rw [hlt,← ht]
     have hwl : w < (r.set w e).length:=by simp;omega
     rw [zc26 hwl,List.take_set_of_le (zc46 _)]
     simp
    ·rw [List.drop_set_of_lt (by omega),hd1]
  ·have : j = l.length:=by omega
   subst this
   rw [decide_eq_false (show ¬ (l.length : Int) < lenL r by unfold lenL;omega),zq443]
   rw [List.take_of_length_le (zc46 _)] at ht
   exact ⟨w,r,rfl,ht,by omega⟩
theorem zq501 {l : List Ls} (h : l.length ≤ 1048576) : zq1492 l = some (l,()):=by
 unfold zq1492
 rw [zq1398 (zq1424 (by simp [lenL]) (zq993 l) (by unfold lenL;simp;omega)),List.nil_append]
 cases l with
 | nil => exact zq441 _
 | cons a r => rfl
theorem zq909 {l : List Ls} (h : l.length ≤ 1048576) (now : Int) : zq923 l now = some (live l now,()):=by
 unfold zq923
 rw [zq501 h,zq415,zq1006 h now,zq415]
 cases hf : zq603 (overP now) l with
 | none =>
  simp only [zq1188,sumC]
  have : live l now = l:=by
   unfold live
   rw [List.filter_eq_self]
   intro x hx
   have:=zq607 hf x hx
   rw [zq1190] at this
   simpa using this
  rw [this]
 | some k =>
  obtain ⟨x,hx,hq,hb⟩:=zq608 hf
  have hk:=zq606 hf
  simp only [zq1188,sumC]
  rw [decide_eq_false (show ¬ (k : Int) = -1 by omega),zq443,zq1398 (zq693 (by omega) (by omega)),show ((k : Int) + 1) = ((k + 1 : Nat) : Int) by omega]
  have hlk : live (l.take (k + 1)) now = l.take k:=by
   unfold live
   have hxe:=(zc1.1 hx).2
   rw [zc26 hk,List.filter_append,hxe]
   have h1 : (l.take k).filter (liveP now) = l.take k:=by
    rw [List.filter_eq_self]
    intro y hy
    have:=hb y hy
    rw [zq1190] at this
    simpa using this
   have h2 : liveP now x = false:=by
    rw [zq1190] at hq
    simpa using hq
   rw [h1,List.filter_cons,h2]
   simp
  obtain ⟨w',r',hl,ht,hw⟩:=zq1007 h now FUEL (k + 1) k l (by have : FUEL = 18446744073709551616:=rfl;omega) (by omega) (by omega) rfl (by rw [hlk]) rfl
  rw [hl,zq415]
  have hc : (clrL r' (w' : Int) (⟨(⟨false,0,0⟩ : Ad),(ByteArray.empty),0⟩ : Ls)).length = r'.length:=by simp [clrL];omega
  have hz : (decide ((0 : Int) ≤ (w' : Int)) && decide ((w' : Int) ≤ lenL r')) = true:=by simp [lenL];omega
  have hz2 : (decide ((0 : Int) ≤ (w' : Int)) && decide ((w' : Int) ≤ lenL (clrL r' (w' : Int) (⟨(⟨false,0,0⟩ : Ad),(ByteArray.empty),0⟩ : Ls)))) = true:=by
   unfold lenL
   rw [hc]
   exact hz
  rw [zq1398 hz,zq1398 hz2]
  have : subL (clrL r' (w' : Int) (⟨(⟨false,0,0⟩ : Ad),(ByteArray.empty),0⟩ : Ls)) 0 (w' : Int) = r'.take w':=by
   simp [subL,clrL,List.take_append_of_le_length,hw]
  rw [this,ht]
theorem zq1005 (l : List Ls) (now : Int) : (live l now).length ≤ l.length:=List.length_filter_le _ _
def zq565 (l : List Ls) (now : Int) : List Ls × Int × Int × Unit:=if allC l now ≠ 0 then ([],0,allC l now,()) else (live l now,lenL l - lenL (live l now),0,())
theorem zq367 {l : List Ls} {now : Int} (h : allC l now = 0) : l.length ≤ 20:=by
 unfold allC at h
 split at h
 ·cases h
 ·omega
theorem zq892 {l : List Ls} (h : lsIn l) (now : Int) : zq894 l now = some (zq565 l now):=by
 unfold zq894 zq565
 rw [zq877 h,zq415]
 by_cases hc : allC l now = 0
 ·have hl:=zq367 hc
  have h2:=zq1005 l now
  simp only [hc,decide_true,zc10,zq443,ne_eq,not_true,if_false]
  rw [zq909 (by omega),zq415,zq1398 (zq693 (by unfold lenL;simp only;omega) (by unfold lenL;simp only;omega))]
 ·simp only [hc,decide_false,zc19,zq445,ne_eq,not_false_eq_true,if_true]
theorem zq177 {l : List Ls} (hlen : l.length ≤ 1048576) (now : Int) : zq179 l now = some (live l now,()):=by
 unfold zq179
 have:=zq1015 (step:=zq171) (fun i => (((),(now,()),(),((i : Int),()),()),(l,live (l.take i) now,()))) l.length (fun i => some (((),()),(l,live l now,()))) (fun rec i hi hr => ?_) (fun rec => ?_) FUEL 0 (Nat.zero_le _) (zq651 (by omega))
 ·rw [show live (l.take 0) now = [] from rfl] at this
  rw [show ((0 : Nat) : Int) = 0 from rfl] at this
  rw [this,zq415]
 ·obtain ⟨e,he⟩ : ∃ e,l[i]? = some e:=⟨_,zc0 hi⟩
  have hx:=(zc1.1 he).2
  have hlt : live (l.take (i + 1)) now = live (l.take i) now ++ (if liveP now e then [e] else []):=by
   unfold live
   rw [zc26 hi,List.filter_append,hx]
   congr 1
   simp only [List.filter_cons,List.filter_nil]
  have r1 : zq697 (i : Int) (lenL l) = true:=zq699 (by omega) (by unfold lenL;omega)
  have hl2:=zq1005 (l.take i) now
  simp only [zc20] at hl2
  simp only [zq171]
  rw [decide_eq_true (show (i : Int) < lenL l by unfold lenL;omega),zq445]
  simp only [r1,zq1400,zq657 he,zq415]
  rw [show ((i : Int) + 1) = ((i + 1 : Nat) : Int) by omega,zq1398 (zq693 (by omega) (by omega))]
  unfold liveP at hlt
  by_cases hp : now ≤ e.upto
  ·have hp' : e.upto ≥ now:=hp
   rw [decide_eq_true hp',zq445,zq1398 (zq1424 (zq993 _) (zq993 _) (by unfold lenL;simp only [zc21,zc32];omega))]
   rw [decide_eq_true hp,if_pos rfl] at hlt
   rw [← hlt,hr]
  ·have hp' : ¬ e.upto ≥ now:=hp
   rw [decide_eq_false hp',zq443,zq1398 (zq693 (by omega) (by omega))]
   rw [decide_eq_false hp] at hlt
   simp only [zc16,if_false,List.append_nil] at hlt
   rw [← hlt,hr]
 ·simp only [zq171]
  rw [decide_eq_false (show ¬ (l.length : Int) < lenL l by unfold lenL;omega),zq443,List.take_of_length_le (zc46 _)]
def whoP (who : ByteArray) (x : Ls) : Bool:=decide (x.who = who)
def zq1733 (l : List Ls) : Option Nat → (((Int × Unit) × Unit) × (List Ls × Unit)) ⊕ ((Unit) × (List Ls × Unit))
 | some k => Sum.inl ((((k : Int),()),()),(l,()))
 | none => Sum.inr ((),(l,()))
theorem zq232 {l : List Ls} (hlen : l.length ≤ 9223372036854775807) (who : ByteArray) : zq234 l who = some (idxI (zq603 (whoP who) l),()):=by
 have : loopN zq226 FUEL (((),(who,()),(0,()),()),(l,())) = some (zq1733 l (zq603 (whoP who) l)):=by
  have:=zq1015 (step:=zq226) (fun i => (((),(who,()),((i : Int),()),()),(l,()))) l.length (fun i => some (zq1733 l ((zq603 (whoP who) (l.drop i)).map (· + i)))) (fun rec i hi hr => ?_) (fun rec => ?_) FUEL 0 (Nat.zero_le _) (zq651 (by omega))
  ·simpa using this
  ·obtain ⟨e,he⟩ : ∃ e,l[i]? = some e:=⟨_,zc0 hi⟩
   have r1 : zq697 (i : Int) (lenL l) = true:=zq699 (by omega) (by unfold lenL;omega)
   simp only [zq226]
   rw [decide_eq_true (show (i : Int) < lenL l by unfold lenL;omega),zq445]
   simp only [r1,zq1400,zq657 he,zq415]
   rw [zq605 he,zq1673]
   unfold whoP
   by_cases hc : e.who = who
   ·simp only [hc,decide_true,zq445,if_true]
    rfl
   ·simp only [hc,decide_false,zq443]
    rw [show ((i : Int) + 1) = ((i + 1 : Nat) : Int) by omega,zq1398 (zq693 (by omega) (by omega)),hr]
    rfl
  ·simp only [zq226]
   rw [decide_eq_false (show ¬ (l.length : Int) < lenL l by unfold lenL;omega),zq443,zc18 (zc46 _)]
   rfl
 unfold zq234
 rw [this,zq415]
 cases zq603 (whoP who) l <;> rfl
theorem zq214 {l l' : List Ls} (hl : l.length < 9223372036854775808) : zq216 l l' = some (decide (l = l'),()):=by
 unfold zq216
 by_cases hn : l.length = l'.length
 rotate_left
 ·rw [decide_eq_false (show ¬ lenL l = lenL l' by unfold lenL;omega),zc19,zq445,decide_eq_false (fun h => hn (by rw [h]))]
 rw [decide_eq_true (show lenL l = lenL l' by unfold lenL;omega),zc10,zq443]
 have hlp : loopN zq208 FUEL (((),(),(0,()),()),(l,l',())) = some (if l.drop 0 = l'.drop 0 then Sum.inr ((),(l,l',())) else Sum.inl ((((false : Bool),()),()),(l,l',()))):=by
  refine zq1015 (step:=zq208) (fun i => (((),(),((i : Int),()),()),(l,l',()))) l.length (fun i => some (if l.drop i = l'.drop i then Sum.inr ((),(l,l',())) else Sum.inl ((((false : Bool),()),()),(l,l',())))) (fun rec i hi hr => ?_) (fun rec => ?_) FUEL 0 (Nat.zero_le _) (zq651 (by omega))
  ·obtain ⟨e,he⟩ : ∃ e,l[i]? = some e:=⟨_,zc0 hi⟩
   obtain ⟨e',he'⟩ : ∃ e,l'[i]? = some e:=⟨_,zc0 (by omega)⟩
   simp only [zq208]
   rw [decide_eq_true (show (i : Int) < lenL l by unfold lenL;omega),zq445,zq1398 (zq699 (by omega) (by unfold lenL;omega)),zq657 he,zq415,zq1398 (zq699 (by omega) (by unfold lenL;omega)),zq657 he',zq415,zq594,zq568 he,zq568 he']
   by_cases hee : e = e'
   ·rw [decide_eq_true hee,zc10,zq443,show ((i : Int) + 1) = ((i + 1 : Nat) : Int) by omega,zq1398 (zq693 (by omega) (by omega)),hr]
    simp [hee]
   ·rw [decide_eq_false hee,zc19,zq445]
    simp [hee]
  ·simp only [zq208]
   rw [decide_eq_false (show ¬ (l.length : Int) < lenL l by unfold lenL;omega),zq443,zc18 (zc46 _),zc18 (by omega)]
   rfl
 rw [hlp,zq415,List.drop_zero,List.drop_zero]
 by_cases h : l = l'
 ·rw [if_pos h,decide_eq_true h];rfl
 ·rw [if_neg h,decide_eq_false h];rfl
end Go.Ma
namespace Go.Ma
open Go
def allA (last : Ad) : Nat → Ad → Option (List Ad)
 | 0,_ => none
 | k + 1,a => br (decide (a = last)) (some [a]) ((zq332 a).bind fun y => br y.2.1 ((allA last k y.1).map (a :: ·)) (some [a]))
def zq609 (p : Pf) (as : List Ad) (ls : List Ls) : List Ad → Option (Ad × Bool × Unit)
 | [] => some (⟨false,0,0⟩,false,())
 | a :: r => (zq283 p as ls a).bind fun t => (zq609 p as ls r).bind fun y => some (bif t.1 then y else (a,true,()))
def zq264 (p : Pf) (as : List Ad) (ls : List Ls) : Option (Ad × Bool × Unit) :=
 (zq1268 p).bind fun y => (allA y.1 64 p.ad).bind fun xs => zq609 p as ls xs
def zq1699 : List ByteArray → List Ls → Bool
 | _,[] => false
 | seen,x :: r => bif seen.any (fun s => decide (s = x.who)) then true else zq1699 (x.who :: seen) r
def zq970 (l : List Ls) : Option (Bool × Unit):=req (Nat.ble l.length 1024 && l.all (fun x => Nat.ble x.who.size 1024)) (some (zq1699 [] l,()))
def incR : List UInt8 → Option (List UInt8)
 | [] => none
 | c :: r => if c = 48 then some (49 :: r) else (incR r).map (48 :: ·)
def zq183 (a : Ad) : Option (Ad × Bool × Unit) :=
 (zq29 a).bind fun y => req (Nat.ble y.1.size 1024) <|
 match incR y.1.data.toList.reverse with
 | some l => (zq17 ⟨l.reverse.toArray⟩).bind fun z => some (z.1,true,())
 | none => some (⟨false,0,0⟩,false,())
end Go.Ma
