/-
  Parts: MaI MaF MaG MaR MaH MaJ Pa Pb MaS.
-/
import Derived.ProofKit
import Derived.Deep.Slices
import Derived.Below
import Derived.LoopN
import Derived.Deep.LoopGhost
import Derived.Laws.StructEq
import Derived.IntWalk
import Derived.Test.YtjncjiegmnicbabGreatVf1
set_option linter.unusedVariables false
set_option linter.unusedSimpArgs false
open List renaming getElem?_eq_getElem → zc0, getElem?_eq_some_iff → zc1, getD_eq_getElem?_getD → zc3, mem_of_getElem? → zc5, getElem?_append_left → zc6, getElem?_append_right → zc12, getElem?_cons_zero → zc13, getElem?_set_ne → zc15, all_eq_true → zc17, length_cons → zc21, getElem?_eq_none → zc22, getElem?_set_self → zc23, length_append → zc24, mem_cons → zc28, getElem?_append → zc29, getElem?_map → zc31, length_nil → zc32, getElem?_cons_succ → zc35, mem_append → zc36, not_mem_nil → zc37, mem_singleton → zc38, append_assoc → zc46
open Option.some renaming injEq → zc2
open Bool renaming and_eq_true → zc4, false_eq_true → zc16
open Option renaming map_eq_some_iff → zc7, bind_eq_some_iff → zc8, bind_some → zc49
open Prod.mk renaming injEq → zc11
open Array renaming getElem?_toList → zc25, getElem?_eq_some_iff → zc27
open Int renaming toNat_natCast → zc41
open Nat renaming le_refl → zc47
noncomputable section
namespace Go.Ma
open Go Go.RowKit
section
variable {T : Nat → TI} {E : Env} {t t' : List SV} {m : Mem}
theorem zq1196 {l : List Operand} (h : ∀ x ∈ l,ev t x = ev t' x) : l.map (ev t) = l.map (ev t') := List.map_congr_left h
theorem zq526 {fs : List (Nat × TypeId)} : ∀ (ps : List (Nat × Operand)) (cs : List SV),(∀ p ∈ ps,ev t p.2 = ev t' p.2) → zq525 T t fs ps cs = zq525 T t' fs ps cs
 | [],_,_ => rfl
 | (i,x) :: r,cs,h => by
  have hx : ev t x = ev t' x := h (i,x) (by simp)
  simp only [zq525,hx]
  cases fs[i]? with
  | none => rfl
  | some q =>
   simp only
   split
   ·rfl
   ·exact zq526 r _ fun p hp => h p (by simp [hp])
theorem zq1112 {sz n : Nat} : ∀ (ps : List (Nat × Operand)) (cs : List SV),(∀ p ∈ ps,ev t p.2 = ev t' p.2) → zq1111 t sz n ps cs = zq1111 t' sz n ps cs
 | [],_,_ => rfl
 | (i,x) :: r,cs,h => by
  have hx : ev t x = ev t' x := h (i,x) (by simp)
  simp only [zq1111,hx]
  split
  ·rfl
  ·exact zq1112 r _ fun p hp => h p (by simp [hp])
theorem zq1303 (op : Op) (h : ∀ x ∈ op.operands,ev t x = ev t' x) : opq T t m op = opq T t' m op := by
 cases op <;> simp only [Op.operands] at h <;> simp only [opq]
 case move x => rw [h x (by simp)]
 case assign x => rw [h x (by simp)]
 case pick c a b => rw [h c (by simp),h a (by simp),h b (by simp)]
 case load ty a => rw [h a (by simp)]
 case fieldAddr ty x f => rw [h x (by simp)]
 case field ty x f => rw [h x (by simp)]
 case build ty ps => rw [zq526 ps.toList _ (fun p hp => h p.2 (by simp; exact ⟨p.1,by simpa using hp⟩))]
 case binOp o ty x y yt => rw [h x (by simp),h y (by simp)]
 case unOp o ty x => cases o <;> simp only [opq] <;> first | rfl | rw [h x (by simp)]
 case convert a b x => rw [h x (by simp)]
 case extract x i => rw [h x (by simp)]
 case nilCheck x => rw [h x (by simp)]
 case makeFunc fn first caps =>
  have hc : caps.toList.map (ev t) = caps.toList.map (ev t') := zq1196 fun x hx => h x (by simp at hx ⊢; exact .inr hx)
  have ha : caps.toList.all (fun x => !(ev t x).isAny) = caps.toList.all (fun x => !(ev t' x).isAny) := by
   have := congrArg (fun l => List.all l (fun s : SV => !s.isAny)) hc
   simpa [List.all_map,Function.comp_def] using this
  cases fn <;> simp only [opq,hc,ha]
 case index ty x i => rw [h x (by simp),h i (by simp)]
 case indexAddr ty x i => rw [h x (by simp),h i (by simp)]
 case slice ty x lo hi mx =>
  have hx := h x (by simp)
  cases mx with
  | some _ => simp only [opq]
  | none => cases lo <;> cases hi <;> simp only [opq,hx] <;> simp_all
 case call c =>
  split
  ·rename_i x at_ hc hargs hat
   have hx := h x (by simp [Call.operands]; exact .inr (by rw [← Array.mem_toList_iff,hargs]; simp))
   rw [hx]
  ·rename_i x y hc hargs
   have hx := h x (by simp [Call.operands]; exact .inr (by rw [← Array.mem_toList_iff,hargs]; simp))
   have hy := h y (by simp [Call.operands]; exact .inr (by rw [← Array.mem_toList_iff,hargs]; simp))
   rw [hx,hy]
  ·rfl
theorem zq1285 (op : Op) (h : ∀ x ∈ op.operands,ev t x = ev t' x) : opa T t op = opa T t' op := by
 cases op <;> simp only [Op.operands] at h <;> simp only [opa]
 case box ty x => rw [h x (by simp)]
 case buildSlice ty n ps => rw [zq1112 ps.toList _ (fun p hp => h p.2 (by simp; exact ⟨p.1,by simpa using hp⟩))]
theorem zq1318 (op : Op) (h : ∀ x ∈ op.operands,ev t x = ev t' x) : opst T t m op = opst T t' m op := by
 cases op <;> simp only [Op.operands] at h <;> simp only [opst]
 case store ty a x => rw [h a (by simp),h x (by simp)]
theorem zq1308 (op : Op) (h : ∀ x ∈ op.operands,ev t x = ev t' x) : oprd T t m op = oprd T t' m op := by
 cases op <;> simp only [Op.operands] at h <;> simp only [oprd]
 case load ty a => rw [h a (by simp)]
theorem zq509 {x : Option Operand} {d : Int} (h : ∀ y,x = some y → ev t y = ev t' y) : bndE t x d = bndE t' x d := by
 cases x with
 | none => rfl
 | some y => simp only [bndE,h y rfl]
theorem zq1310 (op : Op) (h : ∀ x ∈ op.operands,ev t x = ev t' x) : opsl T t m op = opsl T t' m op := by
 cases op <;> simp only [Op.operands] at h <;> simp only [opsl]
 case slice ty x lo hi mx =>
  cases mx with
  | some _ => simp only [opsl]
  | none =>
   have hx := h x (by simp)
   have hlo : ∀ d,bndE t lo d = bndE t' lo d := fun d => zq509 fun y hy => h y (by simp [hy])
   have hhi : ∀ d,bndE t hi d = bndE t' hi d := fun d => zq509 fun y hy => h y (by simp [hy])
   simp only [opsl,hx,hlo,hhi]
theorem zq1316 (op : Op) (h : ∀ x ∈ op.operands,ev t x = ev t' x) : opsr T t m op = opsr T t' m op := by
 cases op <;> simp only [Op.operands] at h <;> simp only [opsr]
 case store ty a x => rw [h a (by simp),h x (by simp)]
theorem zq1288 (op : Op) (h : ∀ x ∈ op.operands,ev t x = ev t' x) : opap T t m op = opap T t' m op := by
 cases op <;> simp only [Op.operands] at h <;> simp only [opap]
 case call c =>
  split
  ·rename_i x y ty ty' hc hargs hat
   have hx := h x (by simp [Call.operands]; exact .inr (by rw [← Array.mem_toList_iff,hargs]; simp))
   have hy := h y (by simp [Call.operands]; exact .inr (by rw [← Array.mem_toList_iff,hargs]; simp))
   simp only [zq1364,zq1689,hx,hy]
  ·rfl
theorem zq1291 (op : Op) (h : ∀ x ∈ op.operands,ev t x = ev t' x) : zq1290 E t op = zq1290 E t' op := by
 cases op <;> simp only [Op.operands] at h <;> simp only [zq1290]
 case call c =>
  split
  ·rename_i f hf
   have h1 := h f (by simp [Call.operands,hf])
   have h2 : c.args.toList.map (ev t) = c.args.toList.map (ev t') := zq1196 fun x hx => h x (by simp [Call.operands]; exact .inr (by simpa using hx))
   simp only [h1,h2]
  ·rfl
theorem zq1298 (oty : TypeId) (op : Op) (h : ∀ x ∈ op.operands,ev t x = ev t' x) : opnl T t m oty op = opnl T t' m oty op := by
 cases op
 case buildSlice ty n ps =>
  simp only [Op.operands] at h
  have : ∀ cs,zq1111 t (T (T ty).elem).size n ps.toList cs = zq1111 t' (T (T ty).elem).size n ps.toList cs := fun cs => zq1112 _ _ fun p hp => h p.2 (by simp; exact ⟨p.1,by simpa using hp⟩)
  simp only [opnl,this]
 all_goals rfl
theorem zq1286 (op : Op) (h : ∀ x ∈ op.operands,ev t x = ev t' x) : opan T t m op = opan T t' m op := by
 cases op <;> simp only [Op.operands] at h <;> simp only [opan]
 case call c =>
  split
  ·rename_i x y ty ty' hc hargs hat
   have h1 := h x (by simp [Call.operands]; exact .inr (by rw [← Array.mem_toList_iff,hargs]; simp))
   have h2 := h y (by simp [Call.operands]; exact .inr (by rw [← Array.mem_toList_iff,hargs]; simp))
   rw [h1,h2]
  ·rfl
theorem zq1312 (op : Op) (h : ∀ x ∈ op.operands,ev t x = ev t' x) : opsn T t m op = opsn T t' m op := by
 cases op <;> simp only [Op.operands] at h <;> simp only [opsn]
 case store ty a x => rw [h a (by simp),h x (by simp)]
theorem zq1326 {X : Type} (o : Oper) (k : SV → Mem → Option X) (h : ∀ x ∈ o.op.operands,ev t x = ev t' x) : opx0 E t o m k = opx0 E t' o m k := by
 unfold opx0
 rw [zq1298 o.type o.op h,zq1303 o.op h,zq1285 o.op h,zq1318 o.op h,zq1288 o.op h,zq1286 o.op h,zq1310 o.op h,zq1308 o.op h,zq1316 o.op h,zq1312 o.op h,zq1291 o.op h]
theorem zq1403 {T : Nat → TI} (op : Op) (h : ∀ x ∈ op.operands,ev t x = ev t' x) (n : Nat) (m : Mem) : post T t n op m = post T t' n op m := by
 cases op <;> simp only [Op.operands] at h <;> simp only [post]
 case store ty a x => rw [h a (by simp)]
theorem zq1407 (op : Op) (h : ∀ x ∈ op.operands,ev t x = ev t' x) (m : Mem) : pre t m op = pre t' m op := by
 cases op <;> simp only [Op.operands] at h <;> simp only [pre]
 case call c =>
  split
  ·rename_i s r hc hargs
   have := h (.tmp s) (by simp [Call.operands]; exact .inr (by rw [← Array.mem_toList_iff,hargs]; simp))
   simp only [ev] at this
   rw [this]
  ·rfl
theorem zq1408 {m : Mem} {op : Op} {c : Bool} {s : Nat} {m' : Mem} (h : pre t m op = some (c,s,m')) : ∃ cl r jb i,op = .call cl ∧ cl.callee = .builtin .append ∧ cl.args.toList = .tmp s :: r ∧ t.getD s .any = .inn jb i := by
 unfold pre at h
 split at h
 rotate_left
 ·cases h
 rename_i cl
 split at h
 rotate_left
 ·cases h
 rename_i s0 r hc hargs
 split at h
 rotate_left
 ·cases h
 rename_i jb i hs
 obtain ⟨m2,hm2,he⟩ := zc7.1 h
 simp only [zc11] at he
 obtain ⟨_,rfl,_⟩ := he
 exact ⟨cl,r,jb,i,rfl,hc,hargs,hs⟩
theorem zq1330 {X : Type} (o : Oper) (k : SV → Mem → Option X) (h : ∀ x ∈ o.op.operands,ev t x = ev t' x) : opx E t o m k = opx E t' o m k := by
 unfold opx
 rw [zq1407 o.op h]
 simp only [zq1403 o.op h]
 cases hp : pre t' m o.op with
 | none => exact zq1326 o _ h
 | some z =>
  obtain ⟨c,s,m'⟩ := z
  simp only
  congr 1
  obtain ⟨cl,r,jb,i,hop,hc,hargs,hs⟩ := zq1408 hp
  have hs' : t.getD s .any = .inn jb i := by
   have := h (.tmp s) (by rw [hop]; simp [Op.operands,Call.operands]; exact .inr (by rw [← Array.mem_toList_iff,hargs]; simp))
   simp only [ev] at this
   rw [this,hs]
  have hlt : ∀ {u : List SV},u.getD s .any = .inn jb i → s < u.length := fun {u} hu => by
   rcases Nat.lt_or_ge s u.length with h | h
   ·exact h
   ·rw [zc3,zc22 h] at hu; cases hu
  refine zq1326 o _ fun x hx => ?_
  have := h x hx
  cases x with
  | tmp q =>
   simp only [ev,zc3] at this ⊢
   by_cases hq : q = s
   ·subst hq
    rw [zc23 (hlt hs'),zc23 (hlt hs)]
   ·rw [zc15 (fun e => hq e.symm),zc15 (fun e => hq e.symm)]
    exact this
  | _ => rfl
end
def zq7 (E : Env) : Prop := ∀ f g,E.call f = some g → g.det = true
def runO (E : Env) (t : List SV) (o : Oper) (m : Mem) : Option (SV × Mem) := opx E t o m fun v m' => some (v,m')
section
variable {P : Program} {E : Env} {t : List SV} {m : Mem} {o : Oper}
theorem zq1327 (hE : EnvOk P E) {X : Type} {k : SV → Mem → Option X} {x : X} (hl : ∀ g args,zq1290 E t o.op = some (g,args) → g.det = true) (h : opx0 E t o m k = some x) :
  ∃ v m',opx0 E t o m (fun v m' => some (v,m')) = some (v,m') ∧ k v m' = some x := by
 unfold opx0 at h ⊢
 split at h
 ·exact ⟨_,_,rfl,h⟩
 split at h
 ·exact ⟨_,_,rfl,h⟩
 split at h
 ·obtain ⟨hc,h⟩ := zq1561 h
  subst hc
  exact ⟨_,_,rfl,h⟩
 split at h
 ·exact ⟨_,_,rfl,h⟩
 split at h
 ·split at h
  ·rename_i hd
   exact ⟨_,_,by rw [if_pos hd],h⟩
  ·cases h
 split at h
 ·obtain ⟨hc,h⟩ := zq1561 h
  subst hc
  exact ⟨_,_,rfl,h⟩
 split at h
 ·obtain ⟨hc,h⟩ := zq1561 h
  subst hc
  exact ⟨_,_,rfl,h⟩
 split at h
 ·obtain ⟨hc,h⟩ := zq1561 h
  subst hc
  exact ⟨_,_,rfl,h⟩
 split at h
 ·obtain ⟨y,hy,h⟩ := zc8.1 h
  split at h
  ·rename_i v hv
   exact ⟨v,m,by simp only [hy,zc49,hv],h⟩
  ·cases h
 split at h
 ·split at h
  ·rename_i hd
   obtain ⟨y,hy,h⟩ := zc8.1 h
   split at h
   ·rename_i b hb
    exact ⟨.any,_,by rw [if_pos hd,hy,zc49,hb],h⟩
   ·cases h
  ·cases h
 split at h
 ·split at h
  ·rename_i hd
   obtain ⟨hcr,h⟩ := zq1561 h
   obtain ⟨y,hy,h⟩ := zc8.1 h
   split at h
   ·rename_i b hb
    exact ⟨.any,_,by rw [if_pos hd,hcr,hy,zc49,hb]; rfl,h⟩
   ·cases h
  ·cases h
 split at h
 ·rename_i g args hcall
  obtain ⟨f,hf⟩ : ∃ f,TrOk P f g := by
   unfold zq1290 at hcall
   split at hcall
   ·split at hcall
    ·split at hcall
     ·rename_i n _ _
      split at hcall
      ·obtain ⟨g',hg',he⟩ := zc7.1 hcall
       cases he
       exact ⟨n,hE.call n _ hg'⟩
      ·cases hcall
     ·cases hcall
    ·cases hcall
   ·cases hcall
  obtain ⟨r,m',h1,h2,_⟩ := hf.2.2 (hl g args hcall) X args m k x h
  exact ⟨r,m',h1,h2⟩
 ·cases h
theorem zq1328 {X : Type} {k : SV → Mem → Option X} {x : X} (hc : zq1290 E t o.op = none) {v : SV} {m' : Mem} (h : opx0 E t o m (fun v m' => some (v,m')) = some (v,m')) : opx0 E t o m k = k v m' := by
 unfold opx0 at h ⊢
 split at h
 ·cases h; rfl
 split at h
 ·cases h; rfl
 split at h
 ·obtain ⟨hc,h⟩ := zq1561 h
  cases h; subst hc; rfl
 split at h
 ·cases h; rfl
 split at h
 ·split at h
  ·rename_i hd; cases h; rw [if_pos hd]
  ·cases h
 split at h
 ·obtain ⟨hc,h⟩ := zq1561 h
  cases h; subst hc; rfl
 split at h
 ·obtain ⟨hc,h⟩ := zq1561 h
  cases h; subst hc; rfl
 split at h
 ·obtain ⟨hc,h⟩ := zq1561 h
  cases h; subst hc; rfl
 split at h
 ·obtain ⟨y,hy,h⟩ := zc8.1 h
  split at h
  ·rename_i v hv
   cases h
   simp only [hy,zc49,hv]
  ·cases h
 split at h
 ·split at h
  ·rename_i hd
   obtain ⟨y,hy,h⟩ := zc8.1 h
   split at h
   ·rename_i b hb
    cases h
    rw [if_pos hd,hy,zc49,hb]
   ·cases h
  ·cases h
 split at h
 ·split at h
  ·rename_i hd
   obtain ⟨hcr,h⟩ := zq1561 h
   obtain ⟨y,hy,h⟩ := zc8.1 h
   split at h
   ·rename_i b hb
    cases h
    rw [if_pos hd,hcr,hy,zc49,hb]
    rfl
   ·cases h
  ·cases h
 split at h
 ·rename_i hcall
  rw [hc] at hcall
  cases hcall
 ·cases h
theorem zq533 {op : Op} {g : Con} {args : List SV} (h : zq1290 E t op = some (g,args)) (T : Nat → TI) (m : Mem) : pre t m op = none ∧ ∀ n m,post T t n op m = m := by
 unfold zq1290 at h
 split at h
 ·split at h
  ·rename_i c _ hc
   refine ⟨?_,fun n m => rfl⟩
   simp only [pre,hc]
  ·cases h
 ·cases h
theorem zq1331 (hE : EnvOk P E) {X : Type} {k : SV → Mem → Option X} {x : X} (hg : zq891 E o.op = true ∨ (∃ v m',runO E t o m = some (v,m')) ∨ True) (hl : ∀ g args,zq1290 E t o.op = some (g,args) → g.det = true) (h : opx E t o m k = some x) :
  ∃ v m',runO E t o m = some (v,m') ∧ k v m' = some x := by
 cases hc : zq1290 E t o.op with
 | some z =>
  obtain ⟨g,args⟩ := z
  obtain ⟨hp,hq⟩ := zq533 hc E.T m
  unfold runO
  unfold opx at h ⊢
  simp only [hp,hq] at h ⊢
  exact zq1327 hE hl h
 | none =>
  unfold runO
  unfold opx at h ⊢
  cases hp : pre t m o.op with
  | none =>
   simp only [hp] at h ⊢
   obtain ⟨v,m',h1,h2⟩ := zq1327 hE hl h
   exact ⟨v,_,zq1328 (x := (v,m')) hc h1,h2⟩
  | some z =>
   obtain ⟨c,s,m1⟩ := z
   simp only [hp] at h ⊢
   obtain ⟨hcc,h⟩ := zq1561 h
   rw [hcc]
   simp only [req]
   obtain ⟨cl,r,jb,i,hop,hcl,_⟩ := zq1408 hp
   have hc' : zq1290 E (t.set s (.row (m1.length - 1))) o.op = none := by
    rw [hop]
    simp only [zq1290,hcl]
   obtain ⟨v,m',h1,h2⟩ := zq1327 hE (fun g args h => by rw [hc'] at h; cases h) h
   exact ⟨v,_,zq1328 (x := (v,m')) hc' h1,h2⟩
theorem zq892 (hE : EnvOk P E) (hL : zq7 E) (hg : zq891 E o.op = true) {v : SV} {m' : Mem} (h : runO E t o m = some (v,m')) : ∃ os,m' = m ++ os := by
 have hpre : pre t m o.op = none := by
  cases hp : pre t m o.op with
  | none => rfl
  | some z =>
   obtain ⟨c,s,m1⟩ := z
   obtain ⟨cl,r,jb,i,hop,hcl,_⟩ := zq1408 hp
   rw [hop] at hg
   simp [zq891,hcl] at hg
 have hpost : ∀ os,∃ os',post E.T t m.length o.op (m ++ os) = m ++ os' := fun os => by
  cases hop : o.op <;> rw [hop] at hg <;> first | exact zq1028 _ _ _ m os (zc47 _) | exact ⟨os,rfl⟩ | (simp [zq891] at hg; done)
 have hpost0 : ∃ os',post E.T t m.length o.op m = m ++ os' := by simpa using hpost []
 unfold runO opx at h
 simp only [hpre] at h
 unfold opx0 at h
 split at h
 ·cases h; exact hpost _
 split at h
 ·rename_i m1 hnl
  cases h
  suffices hx : ∃ os,m1 = m ++ os by
   obtain ⟨os,rfl⟩ := hx
   exact hpost os
  have nilc : ∀ {op : Op},opnlN E.T m o.type op = some m1 → ∃ os,m1 = m ++ os := fun {op} hnl => by
   unfold opnlN at hnl
   split at hnl
   ·split at hnl
    ·split at hnl
     ·injection hnl with hnl; exact ⟨_,hnl.symm⟩
     ·cases hnl
    ·cases hnl
   ·split at hnl
    ·split at hnl
     ·injection hnl with hnl; exact ⟨_,hnl.symm⟩
     ·cases hnl
    ·cases hnl
   ·obtain ⟨f,_,rfl⟩ := zc7.1 hnl
    exact ⟨_,rfl⟩
   ·cases hnl
  unfold opnl at hnl
  split at hnl
  ·rename_i hop
   rw [hop] at hg
   simp only [zq891] at hg
   split at hnl
   ·rename_i hnk
    rw [hnk] at hg
    cases hg
   ·cases hnl
  ·exact nilc hnl
 split at h
 ·obtain ⟨_,h⟩ := zq1561 h
  cases h; exact hpost0
 split at h
 ·cases h; exact hpost _
 split at h
 ·rename_i hst
  cases hop : o.op <;> rw [hop] at hst hg <;> simp [opst,zq891] at hst hg
 split at h
 ·rename_i hap
  cases hop : o.op <;> rw [hop] at hap hg <;> simp only [opap] at hap <;> try (cases hap; done)
  rename_i c
  split at hap
  ·rename_i hc _ _
   simp [zq891,hc] at hg
  ·cases hap
 split at h
 ·rename_i hap
  cases hop : o.op <;> rw [hop] at hap hg <;> simp only [opan] at hap <;> try (cases hap; done)
  rename_i c
  split at hap
  ·rename_i hc _ _
   simp [zq891,hc] at hg
  ·cases hap
 split at h
 ·rename_i hsl
  cases hop : o.op <;> rw [hop] at hsl hg <;> simp only [opsl] at hsl <;> try (cases hsl; done)
  rename_i ty x lo hi mx
  cases mx with
  | some _ => simp only [opsl] at hsl; cases hsl
  | none =>
   simp only [opsl] at hsl
   split at hsl
   ·rename_i hk hkd _
    simp [zq891,hkd] at hg
   ·cases hsl
 split at h
 ·obtain ⟨y,hy,h⟩ := zc8.1 h
  split at h
  ·cases h; exact hpost0
  ·cases h
 split at h
 ·rename_i hsr
  cases hop : o.op <;> rw [hop] at hsr hg <;> simp [opsr,zq891] at hsr hg
 split at h
 ·rename_i hsr
  cases hop : o.op <;> rw [hop] at hsr hg <;> simp [opsn,zq891] at hsr hg
 split at h
 ·rename_i g args hcall
  unfold zq1290 at hcall
  split at hcall
  ·rename_i c hop
   split at hcall
   ·rename_i f hc
    split at hcall
    ·rename_i n caps hf
     split at hcall
     ·obtain ⟨g',hg',he⟩ := zc7.1 hcall
      cases he
      have hlaw : g.law = true := by
       rw [hop] at hg
       cases f <;> simp only [zq891,hc] at hg <;> try (cases hg; done)
       rename_i ff
       have : n = ff := by
        simp only [ev] at hf
        cases hf
        rfl
       subst this
       rw [hg'] at hg
       exact hg
      obtain ⟨r,m1,h1,h2,h3⟩ := (hE.call n g hg').2.2 (hL n g hg') _ _ m _ _ h
      cases h2
      obtain ⟨os,rfl⟩ := h3 hlaw
      exact hpost os
     ·cases hcall
    ·cases hcall
   ·cases hcall
  ·cases hcall
 ·cases h
theorem zq870 {m os : Mem} {j : Nat} {ob : Obj} (h : m[j]? = some ob) : (m ++ os)[j]? = some ob := by
 rw [zc6 (zc1.1 h).1]; exact h
theorem zq1301 {T : Nat → TI} {op : Op} {os : Mem} {r : Bool × SV} (h : opq T t m op = some r) : opq T t (m ++ os) op = some r := by
 cases op <;> try (simp only [opq] at h ⊢; exact h)
 case unOp o ty x => cases o <;> simp only [opq] at h ⊢ <;> exact h
 case makeFunc fn first caps => cases fn <;> simp only [opq] at h ⊢ <;> exact h
 case slice ty x lo hi mx => cases mx <;> simp only [opq] at h ⊢ <;> exact h
 case load ty a =>
  simp only [opq] at h ⊢
  split at h
  ·next j off hx =>
   split at h
   ·next hj => rw [zq870 hj]; exact h
   ·cases h
  ·next j n sz off hx =>
   split at h
   ·next hj => rw [zq870 hj]; exact h
   ·cases h
  ·cases h
 case fieldAddr ty x f =>
  simp only [opq] at h ⊢
  split at h
  ·split at h
   ·next hc =>
    rw [if_pos hc]
    split at h
    ·split at h
     ·next hj => rw [zq870 hj]; exact h
     ·cases h
    ·split at h
     ·next hj => rw [zq870 hj]; exact h
     ·cases h
    ·split at h
     ·next hj => rw [zq870 hj]; exact h
     ·cases h
    ·cases h
   ·cases h
  ·cases h
 case convert a b x =>
  simp only [opq] at h ⊢
  split at h
  ·exact h
  ·split at h
   ·next hj => simp only [*,zq870 hj]
   ·cases h
  ·cases h
 case nilCheck x =>
  simp only [opq] at h ⊢
  split at h
  ·split at h
   ·next hj => rw [zq870 hj]; exact h
   ·cases h
  ·split at h
   ·next hj => rw [zq870 hj]; exact h
   ·cases h
  ·cases h
 case indexAddr ty x i =>
  simp only [opq] at h ⊢
  split at h
  ·split at h
   ·next hj => rw [zq870 hj]; exact h
   ·cases h
  ·split at h
   ·next hj => rw [zq870 hj]; exact h
   ·cases h
  ·cases h
 case call c =>
  simp only [opq] at h ⊢
  split at h
  ·split at h
   ·exact h
   ·split at h
    ·next hj => rw [zq870 hj]; exact h
    ·cases h
   ·split at h
    ·next hj => rw [zq870 hj]; exact h
    ·cases h
   ·exact h
   ·cases h
  ·exact h
  ·cases h
theorem zq1306 {T : Nat → TI} {op : Op} {os : Mem} {r : RdL} (h : oprd T t m op = some r) : oprd T t (m ++ os) op = some r := by
 cases op <;> try (simp only [oprd] at h ⊢; exact h)
 case load ty a =>
  simp only [oprd] at h ⊢
  split at h
  ·split at h
   ·next hj => rw [zq870 hj]; exact h
   ·next hj => rw [zq870 hj]; exact h
   ·cases h
  ·split at h
   ·next hj => rw [zq870 hj]; exact h
   ·cases h
  ·cases h
theorem zq1297 {T : Nat → TI} {m m' : Mem} {oty : TypeId} {op : Op} (h : opnlN T m oty op = none) : opnlN T m' oty op = none := by
 unfold opnlN at h ⊢
 split at h
 ·split at h
  ·split at h
   ·cases h
   ·rename_i hc
    rw [if_neg hc]
  ·rfl
 ·split at h
  ·split at h
   ·cases h
   ·rename_i hc
    rw [if_neg hc]
  ·rfl
 ·rw [Option.map_eq_none_iff] at h ⊢; exact h
 ·rfl
theorem zq1299 {T : Nat → TI} {t t' : List SV} {m m' : Mem} {oty : TypeId} {op : Op} (hq : (opq T t m op).isSome = true ∨ (oprd T t m op).isSome = true) (h : (opnl T [] [] oty op).isNone = true) : opnl T t' m' oty op = none := by
 have h' : opnl T [] [] oty op = none := by simpa using h
 cases op
 case buildSlice ty n ps => rcases hq with hq | hq <;> cases hq
 case makeSlice ty x y => rcases hq with hq | hq <;> cases hq
 case move x => exact zq1297 (m := []) (op := .move x) h'
 case assign x => exact zq1297 (m := []) (op := .assign x) h'
 all_goals rfl
end
theorem zq984 {P : Program} {E : Env} (hE : EnvOk P E) : EnvOk P (lawE E) := ⟨hE.T,hE.B,fun f g h => by
 simp only [lawE] at h
 split at h
 ·rename_i g' hg'
  split at h
  ·injection h with h; subst h; exact hE.call f _ hg'
  ·cases h
 ·cases h⟩
theorem zq983 (E : Env) : zq7 (lawE E) := fun f g h => by
 simp only [lawE] at h
 split at h
 ·split at h
  ·rename_i hl; injection h with h; subst h; exact hl
  ·cases h
 ·cases h
theorem zq1292 {E : Env} (hL : zq7 E) {t : List SV} {op : Op} {g : Con} {args : List SV} (h : zq1290 E t op = some (g,args)) : g.det = true := by
 unfold zq1290 at h
 split at h
 ·split at h
  ·split at h
   ·split at h
    ·obtain ⟨g',hg',he⟩ := zc7.1 h
     cases he
     exact hL _ _ hg'
    ·cases h
   ·cases h
  ·cases h
 ·cases h
theorem zq1613 {t : List SV} {d : Nat} {b : Bool} (h : t.getD d .any = .b b) : t.set d (.b b) = t := by
 apply List.ext_getElem?
 intro k
 by_cases hk : d = k
 ·subst hk
  rw [zc3] at h
  cases hx : t[d]? with
  | none => rw [hx] at h; cases h
  | some y =>
   rw [hx] at h
   simp only [Option.getD_some] at h
   rw [zc23 (zc1.1 hx).1,h]
 ·rw [zc15 hk]
section
variable {P : Program} {E : Env} {ops : Array Oper}
inductive Ran (E : Env) (ops : Array Oper) (o : Oper) (t : List SV) (m : Mem) (v : SV) (m' : Mem) : Prop where
 | run (h : runO E t o m = some (v,m')) (hw : ∀ j want,o.guard = some (j,want) → ∃ d,(ops[j]?).bind (·.dst) = some d ∧ t.getD d .any = .b want)
 | skip (hv : v = .undef) (hm : m' = m) (j : Nat) (want : Bool) (hg : o.guard = some (j,want)) (d : Nat) (hd : (ops[j]?).bind (·.dst) = some d) (hs : t.getD d .any = .b (!want) ∨ t.getD d .any = .undef)
theorem zq1789 (hE : EnvOk P E) (hL : zq7 E) {X : Type} {i : Nat} {o : Oper} (ho : ops[i]? = some o) {s : St} {k : St → Option X} {x : X} (h : stepC E ops i s k = some x) :
  ∃ v m',Ran E ops o s.t s.m v m' ∧ k ⟨put s.t o.dst v,m'⟩ = some x := by
 unfold stepC at h
 simp only [ho] at h
 have law := fun t => zq1331 (t := t) (m := s.m) (o := o) hE (k := fun v m => k ⟨put t o.dst v,m⟩) (x := x) (.inr (.inr trivial)) (fun g args hc => zq1292 hL hc)
 split at h
 ·rename_i hg
  obtain ⟨v,m',h1,h2⟩ := law s.t h
  exact ⟨v,m',.run h1 (fun j want he => by rw [hg] at he; cases he),h2⟩
 ·rename_i j want hg
  split at h
  ·cases h
  ·rename_i d hd
   split at h
   ·rename_i e he
    cases want
    ·simp only at h
     rcases zq516 h with ⟨rfl,h⟩ | ⟨rfl,h⟩
     ·rw [zq1613 he] at h
      exact ⟨.undef,s.m,.skip rfl rfl j false hg d hd (.inl he),h⟩
     ·rw [zq1613 he] at h
      obtain ⟨v,m',h1,h2⟩ := law s.t h
      exact ⟨v,m',.run h1 (fun j' want' hg' => by rw [hg] at hg'; cases hg'; exact ⟨d,hd,he⟩),h2⟩
    ·simp only at h
     rcases zq516 h with ⟨rfl,h⟩ | ⟨rfl,h⟩
     ·rw [zq1613 he] at h
      obtain ⟨v,m',h1,h2⟩ := law s.t h
      exact ⟨v,m',.run h1 (fun j' want' hg' => by rw [hg] at hg'; cases hg'; exact ⟨d,hd,he⟩),h2⟩
     ·rw [zq1613 he] at h
      exact ⟨.undef,s.m,.skip rfl rfl j true hg d hd (.inl he),h⟩
   ·rename_i he
    exact ⟨.undef,s.m,.skip rfl rfl j want hg d hd (.inr he),h⟩
   ·cases h
theorem zq866 {t : List SV} {dst : Option Nat} {v : SV} {d : Nat} (h : dst ≠ some d) : (put t dst v).getD d .any = t.getD d .any := by
 cases dst with
 | none => rfl
 | some e =>
  simp only [put,zc3]
  rw [zc15 (by rintro rfl; exact h rfl)]
theorem zq1472 (t : List SV) {a b : Option Nat} (v u : SV) (h : ∀ d,a = some d → b ≠ some d) : put (put t a v) b u = put (put t b u) a v := by
 cases a with
 | none => rfl
 | some d =>
  cases b with
  | none => rfl
  | some e =>
   have hne : d ≠ e := fun he => h d rfl (he ▸ rfl)
   exact List.set_comm _ _ hne
def zq325 (ops : Array Oper) (o : Oper) (t t' : List SV) : Prop := ∀ d ∈ o.looksAt ops,t'.getD d .any = t.getD d .any
theorem zq325.ev {o : Oper} {t t' : List SV} (h : zq325 ops o t t') : ∀ x ∈ o.op.operands,Ma.ev t' x = Ma.ev t x := by
 intro x hx
 cases x with
 | tmp d => exact h d (List.mem_append_left _ (List.mem_filterMap.2 ⟨.tmp d,by simpa using hx,rfl⟩))
 | _ => rfl
theorem zq325.guard {o : Oper} {t t' : List SV} (h : zq325 ops o t t') {j d : Nat} {want : Bool} (hg : o.guard = some (j,want)) (hd : (ops[j]?).bind (·.dst) = some d) : t'.getD d .any = t.getD d .any :=
 h d (List.mem_append_right _ (by simp [hg,hd]))
theorem Ran.same {o : Oper} {t t' : List SV} {m m' : Mem} {v : SV} (h : Ran E ops o t m v m') (hs : zq325 ops o t t') : Ran E ops o t' m v m' := by
 cases h with
 | run hr hw =>
  refine .run ?_ (fun j want hg => ?_)
  ·unfold runO at hr ⊢
   rw [zq1330 o _ hs.ev]
   exact hr
  ·obtain ⟨d,hd,he⟩ := hw j want hg
   exact ⟨d,hd,by rw [hs.guard hg hd]; exact he⟩
 | skip hv hm j want hg d hd hss =>
  refine .skip hv hm j want hg d hd ?_
  rw [hs.guard hg hd]
  exact hss
def QRan (E : Env) (ops : Array Oper) (o : Oper) (t : List SV) (m : Mem) (v : SV) : Prop := ∀ os,Ran E ops o t (m ++ os) v (m ++ os)
theorem zq1505 {T : Nat → TI} {t0 : List SV} {m0 : Mem} {op : Op} (h : (opq T t0 m0 op).isSome = true ∨ (oprd T t0 m0 op).isSome = true) (t : List SV) (m : Mem) : pre t m op = none ∧ ∀ n m,post T t n op m = m := by
 cases op <;> first | exact ⟨rfl,fun _ _ => rfl⟩ | (exfalso; rcases h with h | h <;> cases h; done) | skip
 rename_i c
 refine ⟨?_,fun _ _ => rfl⟩
 unfold pre
 simp only
 split
 ·rename_i hc _
  exfalso
  rcases h with h | h
  ·simp [opq,hc] at h
  ·cases h
 ·rfl
theorem zq1333 {X : Type} {t0 : List SV} {m0 : Mem} {o : Oper} (h : (opq E.T t0 m0 o.op).isSome = true ∨ (oprd E.T t0 m0 o.op).isSome = true) (t : List SV) (m : Mem) (k : SV → Mem → Option X) : opx E t o m k = opx0 E t o m k := by
 obtain ⟨h1,h2⟩ := zq1505 h t m
 unfold opx
 rw [h1]
 simp only [h2]
theorem zq1503 {o : Oper} {t : List SV} {m m' : Mem} {v : SV} (h : Ran E ops o t m v m') (hn : (opnil E.T o.type o.op).isNone = true) (hn2 : (opnl E.T [] [] o.type o.op).isNone = true) (hq : (opq E.T t m o.op).isSome = true ∨ (oprd E.T t m o.op).isSome = true) : m' = m ∧ QRan E ops o t m v := by
 cases h with
 | skip hv hm j want hg d hd hs => exact ⟨hm,fun os => .skip hv rfl j want hg d hd hs⟩
 | run hr hw =>
  have hn' : opnil E.T o.type o.op = none := by simpa using hn
  have hnl : ∀ m',opnl E.T t m' o.type o.op = none := fun m' => zq1299 hq hn2
  cases hqv : opq E.T t m o.op with
  | some cv =>
   obtain ⟨c,u⟩ := cv
   have hr' := hr
   unfold runO at hr'
   rw [zq1333 hq] at hr'
   unfold opx0 at hr'
   simp only [hn',hnl,hqv] at hr'
   obtain ⟨hc,hr'⟩ := zq1561 hr'
   cases hr'
   subst hc
   refine ⟨rfl,fun os => .run ?_ hw⟩
   unfold runO
   rw [zq1333 hq]
   unfold opx0
   simp only [hn',hnl,zq1301 hqv]
   rfl
  | none =>
   rcases hq with hq | hq
   ·rw [hqv] at hq; cases hq
   ·obtain ⟨r,hrd⟩ := Option.isSome_iff_exists.1 hq
    obtain ⟨ty,ad,hop⟩ : ∃ ty ad,o.op = .load ty ad := by
     cases hop : o.op <;> rw [hop] at hrd <;> simp only [oprd] at hrd <;> first | exact ⟨_,_,rfl⟩ | cases hrd
    have hq0 : ∀ os,opq E.T t (m ++ os) o.op = none := by
     intro os
     rw [hop] at hrd hqv ⊢
     simp only [oprd] at hrd
     split at hrd
     ·next heq =>
      split at hrd
      ·next hj => simp only [opq,heq,zq870 hj]
      ·next hj => simp only [opq,heq,zq870 hj]
      ·cases hrd
     ·next heq => simp only [opq,heq]
     ·cases hrd
    have hrest : ∀ os,opa E.T t o.op = none ∧ opst E.T t (m ++ os) o.op = none ∧ opap E.T t (m ++ os) o.op = none ∧ opan E.T t (m ++ os) o.op = none ∧ opsl E.T t (m ++ os) o.op = none := by
     intro os
     rw [hop]
     exact ⟨rfl,rfl,rfl,rfl,rfl⟩
    have key : ∀ os,runO E t o (m ++ os) = ((geti r.l r.i).bind fun a => match r.val a with | some v => some (v,m ++ os) | none => none) := by
     intro os
     obtain ⟨h1,h2,h3,h3n,h4⟩ := hrest os
     unfold runO
     rw [zq1333 (m0 := m) (t0 := t) (.inr hq)]
     unfold opx0
     simp only [hn',hnl,hq0 os,h1,h2,h3,h3n,h4,zq1306 hrd]
     rfl
    have hr0 := hr
    have k0 := key []
    rw [List.append_nil] at k0
    rw [k0] at hr0
    obtain ⟨y,hy,hr0⟩ := zc8.1 hr0
    split at hr0
    ·rename_i u hu
     cases hr0
     refine ⟨rfl,fun os => .run ?_ hw⟩
     rw [key os,hy,zc49,hu]
    ·cases hr0
theorem zq1302 {T : Nat → TI} {t : List SV} {m m' : Mem} {op : Op} {r : Bool × SV} (hR : ∀ q ∈ zq1539 t op,m'[q]? = m[q]?) (h : opq T t m op = some r) : opq T t m' op = some r := by
 have get : ∀ {x : Operand} {j : Nat},x ∈ op.operands.toList → j ∈ (ev t x).refs → m'[j]? = m[j]? := fun {x j} hx hj => hR j (by
  unfold zq1539
  have : ∀ (l : List Operand),x ∈ l → j ∈ refsL (l.map (ev t)) := by
   intro l hl
   induction l with
   | nil => cases hl
   | cons y r ih =>
    simp only [List.map_cons,refsL,zc36]
    rcases zc28.1 hl with rfl | hl
    ·exact .inl hj
    ·exact .inr (ih hl)
  exact this _ hx)
 cases op <;> try (simp only [opq] at h ⊢; exact h)
 case unOp o ty x => cases o <;> simp only [opq] at h ⊢ <;> exact h
 case makeFunc fn first caps => cases fn <;> simp only [opq] at h ⊢ <;> exact h
 case slice ty x lo hi mx => cases mx <;> simp only [opq] at h ⊢ <;> exact h
 case load ty a =>
  simp only [opq] at h ⊢
  split at h
  ·next j off hx => rw [get (x := a) (by simp [Op.operands]) (by rw [hx]; simp [SV.refs])]; exact h
  ·next j n sz off hx => rw [get (x := a) (by simp [Op.operands]) (by rw [hx]; simp [SV.refs])]; exact h
  ·cases h
 case fieldAddr ty x f =>
  simp only [opq] at h ⊢
  split at h
  ·split at h
   ·next hc =>
    rw [if_pos hc]
    split at h
    ·next j off hx => rw [get (x := x) (by simp [Op.operands]) (by rw [hx]; simp [SV.refs])]; exact h
    ·next j n sz off hx => rw [get (x := x) (by simp [Op.operands]) (by rw [hx]; simp [SV.refs])]; exact h
    ·next j n e sz off hx => rw [get (x := x) (by simp [Op.operands]) (by rw [hx]; simp [SV.refs])]; exact h
    ·cases h
   ·cases h
  ·cases h
 case convert a b x =>
  simp only [opq] at h ⊢
  split at h
  ·exact h
  ·next hx =>
   rw [get (x := x) (by simp [Op.operands]) (by rw [hx]; simp [SV.refs])]
   exact h
  ·cases h
 case nilCheck x =>
  simp only [opq] at h ⊢
  split at h
  ·next j off hx => rw [get (x := x) (by simp [Op.operands]) (by rw [hx]; simp [SV.refs])]; exact h
  ·next j n sz off hx => rw [get (x := x) (by simp [Op.operands]) (by rw [hx]; simp [SV.refs])]; exact h
  ·cases h
 case indexAddr ty x i =>
  simp only [opq] at h ⊢
  split at h
  ·next hx _ => rw [get (x := x) (by simp [Op.operands]) (by rw [hx]; simp [SV.refs])]; exact h
  ·next hx _ => rw [get (x := x) (by simp [Op.operands]) (by rw [hx]; simp [SV.refs])]; exact h
  ·cases h
 case call c =>
  simp only [opq] at h ⊢
  split at h
  ·next x at_ hc hargs hat =>
   have hmem : x ∈ (Op.call c).operands.toList := by simp [Op.operands,Call.operands]; exact .inr (by rw [← Array.mem_toList_iff,hargs]; simp)
   split at h
   ·exact h
   ·next hx => rw [get hmem (by rw [hx]; simp [SV.refs])]; exact h
   ·next hx => rw [get hmem (by rw [hx]; simp [SV.refs])]; exact h
   ·exact h
   ·cases h
  ·exact h
  ·cases h
theorem zq1307 {T : Nat → TI} {t : List SV} {m m' : Mem} {op : Op} {r : RdL} (hR : ∀ q ∈ zq1539 t op,m'[q]? = m[q]?) (h : oprd T t m op = some r) : oprd T t m' op = some r := by
 cases op <;> try (simp only [oprd] at h ⊢; exact h)
 case load ty a =>
  simp only [oprd] at h ⊢
  split at h
  ·next hx => rw [hR _ (by simp [zq1539,Op.operands,hx,refsL,SV.refs])]; exact h
  ·next hx => rw [hR _ (by simp [zq1539,Op.operands,hx,refsL,SV.refs])]; exact h
  ·cases h
theorem zq1029 (j off : Nat) : ∀ (l : List (Nat × (K ⊕ (K × K × TypeId)) × TypeId)) (m : Mem) (q : Nat),q ≠ j → q < m.length → (layB j off l m)[q]? = m[q]?
 | [],_,_,_,_ => rfl
 | (o,kd,e) :: r,m,q,hq,hl => by
  unfold layB
  split
  ·split
   ·cases kd with
    | inl k => simp only; rw [zq1029 j off r _ q hq (by simp; omega),zc15 (Ne.symm hq),zc6 hl]
    | inr x =>
     obtain ⟨hk,ik,ity⟩ := x
     simp only
     rw [zq1029 j off r _ q hq (by simp; omega),zc15 (Ne.symm hq),zc6 hl]
   ·exact zq1029 j off r m q hq hl
  ·exact zq1029 j off r m q hq hl
theorem zq1791 {E : Env} {t : List SV} {m : Mem} {o : Oper} {ty : TypeId} {a x : Operand} {j off : Nat} (hop : o.op = .store ty a x) (ha : ev t a = .ptr j off) {v : SV} {m' : Mem} (h : runO E t o m = some (v,m')) {q : Nat} (hq : q ≠ j) (hl : q < m.length) : m'[q]? = m[q]? := by
 unfold runO opx at h
 simp only [hop,pre] at h
 unfold opx0 at h
 simp only [hop,opnil,opnl,opnlN,opq,opa] at h
 split at h
 ·rename_i m1 hst
  split at h
  ·simp only [zc2,zc11] at h
   obtain ⟨_,rfl⟩ := h
   simp only [opst,ha] at hst
   split at hst
   ·split at hst
    ·injection hst with hst
     subst hst
     simp only [post,ha]
     rw [zq1029 _ _ _ _ _ hq (by simpa using hl),zc15 (Ne.symm hq)]
    ·cases hst
   ·cases hst
  ·cases h
 ·simp [opap,opan,opsl,oprd,opsr,opsn,ha,zq1290] at h
theorem zq883 {own : Bool} : ∀ {js : List Nat} {m : Mem},(goneL own js m).length = m.length := by
 intro js
 cases own
 ·simp only [goneL,zc16,if_false]
  induction js with
  | nil => intro m; rfl
  | cons j r ih => intro m; rw [shutL,ih,List.length_set]
 ·simp only [goneL,if_true]
  induction js with
  | nil => intro m; rfl
  | cons j r ih => intro m; rw [killL,ih,List.length_set]
theorem zq978 (m : Mem) (j : Option Nat) : (killO m j).length = m.length := by cases j <;> simp [killO]
theorem zq976 {m : Mem} {j : Option Nat} {q : Nat} {cs : List SV} {ty : TypeId} {own : Bool} (hq : m[q]? = some (.blk cs ty own)) (hj : ∀ k,j = some k → k ≠ q) : (killO m j)[q]? = m[q]? := by
 cases j with
 | none => rfl
 | some k => simp only [killO]; rw [zc15 (hj k rfl)]
theorem zq882 {own : Bool} : ∀ {js : List Nat} {m : Mem} {q : Nat},q ∉ js → (goneL own js m)[q]? = m[q]? := by
 intro js
 cases own
 ·simp only [goneL,zc16,if_false]
  induction js with
  | nil => intro m q _; rfl
  | cons j r ih => intro m q h; simp only [zc28,not_or] at h; rw [shutL,ih h.2,zc15 (Ne.symm h.1)]
 ·simp only [goneL,if_true]
  induction js with
  | nil => intro m q _; rfl
  | cons j r ih => intro m q h; simp only [zc28,not_or] at h; rw [killL,ih h.2,zc15 (Ne.symm h.1)]
theorem zq1638 {E : Env} {t : List SV} {m : Mem} {o : Oper} {ty : TypeId} {x : Operand} {lo hi mx : Option Operand} (hop : o.op = .slice ty x lo hi mx) {v : SV} {m' : Mem} (h : runO E t o m = some (v,m')) {q : Nat} {cs : List SV} {bt : TypeId} {own : Bool} (hq : m[q]? = some (.blk cs bt own)) : m'[q]? = m[q]? := by
 have hql : q < m.length := (zc1.1 hq).1
 unfold runO opx at h
 simp only [hop,pre,post] at h
 unfold opx0 at h
 simp only [hop,opnil,opnl,opnlN] at h
 split at h
 ·obtain ⟨_,h⟩ := zq1561 h
  simp only [zc2,zc11] at h
  rw [h.2]
 ·simp only [opa,opst,opap,opan] at h
  split at h
  ·rename_i e m1 hsl
   obtain ⟨_,h⟩ := zq1561 h
   simp only [zc2,zc11] at h
   obtain ⟨_,rfl⟩ := h
   cases mx with
   | some _ => simp only [opsl] at hsl; cases hsl
   | none =>
    simp only [opsl] at hsl
    split at hsl
    ·split at hsl
     ·rename_i hj
      split at hsl
      ·split at hsl
       ·simp only [zc2,zc11] at hsl
        obtain ⟨_,rfl⟩ := hsl
        rw [zc6 (by split <;> simp [killO] <;> exact hql)]
        refine zq976 hq fun k hk e => ?_
        split at hk
        ·cases hk; rw [e,hq] at hj; cases hj
        ·cases hk
       ·cases hsl
      ·cases hsl
     ·cases hsl
    ·cases hsl
  ·simp [oprd,opsr,opsn,zq1290] at h
theorem zq457 {E : Env} {t : List SV} {m : Mem} {o : Oper} {c : Call} (hop : o.op = .call c) (hc : c.callee = .builtin .append) {v : SV} {m' : Mem} (h : opx0 E t o m (fun v m' => some (v,m')) = some (v,m')) {q : Nat} {cs : List SV} {bt : TypeId} {own : Bool} (hq : m[q]? = some (.blk cs bt own)) : m'[q]? = m[q]? := by
 have hql : q < m.length := (zc1.1 hq).1
 unfold opx0 at h
 simp only [hop,opnil,opnl,opnlN,opq,hc,opa,opst] at h
 split at h
 ·rename_i e m1 hap
  obtain ⟨_,h⟩ := zq1561 h
  simp only [zc2,zc11] at h
  obtain ⟨_,rfl⟩ := h
  simp only [opap,hc] at hap
  split at hap
  ·split at hap
   ·split at hap
    ·rename_i j c1 j' c2 hown _
     split at hap
     ·cases hap
     ·split at hap
      ·simp only [zc2,zc11] at hap
       obtain ⟨_,rfl⟩ := hap
       rw [zc6 (by rw [zq978]; exact hql)]
       refine zq976 hq fun k hk e => ?_
       subst hk
       unfold zq1364 at hown
       split at hown
       ·simp at hown
       ·split at hown
        ·rename_i hj
         split at hown
         ·simp only [zc2,zc11] at hown
          rw [hown.1,e,hq] at hj; cases hj
         ·cases hown
        ·cases hown
       ·cases hown
      ·cases hap
    ·cases hap
   ·cases hap
  ·cases hap
 ·split at h
  ·rename_i e m1 han
   obtain ⟨_,h⟩ := zq1561 h
   simp only [zc2,zc11] at h
   obtain ⟨_,rfl⟩ := h
   simp only [opan,hc] at han
   split at han
   ·split at han
    ·split at han
     ·split at han
      ·rename_i bt1 a1 b1 bt2 b2 _ hna hnb
       split at han
       ·split at han
        ·simp only [zc2,zc11] at han
         obtain ⟨_,rfl⟩ := han
         obtain ⟨_,_,p1,p2⟩ := zq1258 hna
         obtain ⟨_,_,p3,p4⟩ := zq1258 hnb
         have hne : q ∉ [a1.jb,b2.jb] := by
          simp only [zc28,zc37,or_false,not_or]
          exact ⟨fun e => (by rw [e,p2] at hq; cases hq),fun e => (by rw [e,p4] at hq; cases hq)⟩
         rw [zc6 (by rw [zq978,zc24,zq883]; omega)]
         simp only [killO]
         rw [zc15 (fun e => by rw [e,hq] at p1; cases p1),zc6 (by rw [zq883]; exact hql),zq882 hne]
        ·cases han
       ·cases han
      ·cases han
     ·cases han
    ·cases han
   ·cases han
  ·simp [opsl,oprd,opsr,opsn,zq1290,hc] at h
theorem zq456 {E : Env} {t : List SV} {m : Mem} {o : Oper} {c : Call} (hop : o.op = .call c) (hc : c.callee = .builtin .append) {v : SV} {m' : Mem} (h : runO E t o m = some (v,m')) {q : Nat} {cs : List SV} {bt : TypeId} {own : Bool} (hq : m[q]? = some (.blk cs bt own)) : m'[q]? = m[q]? := by
 unfold runO opx at h
 simp only [hop,post] at h
 split at h
 ·rename_i c1 s m1 hp
  obtain ⟨_,h⟩ := zq1561 h
  have hm1 : m1[q]? = m[q]? := by
   have hql : q < m.length := (zc1.1 hq).1
   unfold pre at hp
   simp only [hc] at hp
   split at hp
   ·split at hp
    ·obtain ⟨m2,hm2,he⟩ := zc7.1 hp
     simp only [zc11] at he
     obtain ⟨_,_,rfl⟩ := he
     unfold takeM at hm2
     split at hm2
     ·rename_i hj
      injection hm2 with hm2
      subst hm2
      rw [zc6 (by simpa using hql),zc15 (fun e => by rw [e,hq] at hj; cases hj)]
     ·cases hm2
    ·cases hp
   ·cases hp
  rw [zq457 hop hc h (by rw [hm1]; exact hq),hm1]
 ·exact zq457 hop hc h hq
theorem zq1577 {E : Env} {t : List SV} {m : Mem} {o : Oper} (hop : rowOp o.op = true) {v : SV} {m' : Mem} (h : runO E t o m = some (v,m')) {q : Nat} {cs : List SV} {bt : TypeId} {own : Bool} (hq : m[q]? = some (.blk cs bt own)) : m'[q]? = m[q]? := by
 cases ho : o.op <;> rw [ho] at hop <;> simp only [rowOp] at hop <;> first | (cases hop; done) | exact zq1638 ho h hq | skip
 split at hop
 ·rename_i hc; exact zq456 ho hc h hq
 ·cases hop
inductive Waits (ops : Array Oper) : Nat → Nat → Prop where
 | here {j i : Nat} {o : Oper} {e : Edge} (ho : ops[j]? = some o) (he : e ∈ o.after) (hb : Region.binds .any e = true) (hi : e.on = i) : Waits ops j i
 | there {j i : Nat} {o : Oper} {e : Edge} (ho : ops[j]? = some o) (he : e ∈ o.after) (hb : Region.binds .any e = true) (hi : Waits ops e.on i) : Waits ops j i
def zq3 (ops : Array Oper) (listed : Array Bool) : Prop := ∀ j o,ops[j]? = some o → listed.getD j false = true → ∀ e ∈ o.after,Region.binds .any e = true → listed.getD e.on false = true
theorem zq1845 {listed : Array Bool} (hc : zq3 ops listed) {j i : Nat} (h : Waits ops j i) : (∀ o,ops[j]? = some o → ∀ e ∈ o.after,Region.binds .any e = true → listed.getD e.on false = true) → listed.getD i false = true := by
 induction h with
 | here ho he hb hi => intro hl; subst hi; exact hl _ ho _ he hb
 | there ho he hb _ ih => intro hl; exact ih fun o' ho' => hc _ o' ho' (hl _ ho _ he hb)
theorem zq1200 (i : Nat) (acc : List Nat) : ∀ (es : List Edge) (s : Nat),(es.foldl (fun s e => if Region.binds .any e then s ||| 2 ^ e.on ||| acc.getD e.on 0 else s) s).testBit i = true →
  s.testBit i = true ∨ ∃ e ∈ es,Region.binds .any e = true ∧ (e.on = i ∨ (acc.getD e.on 0).testBit i = true)
 | [],s,h => .inl h
 | e :: r,s,h => by
  simp only [List.foldl_cons] at h
  rcases zq1200 i acc r _ h with h | ⟨e',he',h⟩
  ·split at h
   ·rename_i hb
    simp only [Nat.testBit_or,Bool.or_eq_true,Nat.testBit_two_pow,decide_eq_true_eq] at h
    rcases h with (h | h) | h
    ·exact .inl h
    ·exact .inr ⟨e,by simp,hb,.inl h⟩
    ·exact .inr ⟨e,by simp,hb,.inr h⟩
   ·exact .inl h
  ·exact .inr ⟨e',by simp [he'],h⟩
theorem zq1842 (i : Nat) : ∀ (l : List Oper) (acc : List Nat),(∀ k,l[k]? = ops[acc.length + k]?) → (∀ j,(acc.getD j 0).testBit i = true → Waits ops j i) → ∀ j,((waitL l acc).getD j 0).testBit i = true → Waits ops j i
 | [],acc,_,h,j,hj => h j hj
 | o :: r,acc,hl,h,j,hj => by
  simp only [waitL] at hj
  refine zq1842 i r (acc ++ [zq1843 acc o]) (fun k => ?_) (fun j hj => ?_) j hj
  ·have := hl (k + 1)
   simpa [Nat.add_assoc,Nat.add_comm 1 k] using this
  ·by_cases hjl : j < acc.length
   ·rw [zc3,zc6 hjl,← zc3] at hj
    exact h j hj
   ·by_cases hje : j = acc.length
    ·subst hje
     have e1 : (acc ++ [zq1843 acc o]).getD acc.length 0 = zq1843 acc o := by simp
     rw [e1] at hj
     have ho : ops[acc.length]? = some o := by simpa using (hl 0).symm
     unfold zq1843 at hj
     rcases zq1200 i acc _ 0 hj with hj | ⟨e,he,hb,hj⟩
     ·simp at hj
     ·rcases hj with hj | hj
      ·exact .here ho (by simpa using he) hb hj
      ·exact .there ho (by simpa using he) hb (h _ hj)
    ·rw [zc3,zc22 (by simp; omega)] at hj
     simp at hj
theorem zq1844 {j i : Nat} (h : ((waitL ops.toList []).getD j 0).testBit i = true) : Waits ops j i :=
 zq1842 i ops.toList [] (fun k => by simp) (fun j hj => by simp at hj) j h
def AnyS (E : Env) (ops : Array Oper) {X : Type} (n : St → Option X) (x : X) : Nat → Array Bool → St → Prop
 | 0,listed,s => Region.ready .any ops listed = [] ∧ n s = some x
 | f + 1,listed,s => (Region.ready .any ops listed = [] → n s = some x) ∧ ∀ i ∈ Region.ready .any ops listed,∃ o v m',ops[i]? = some o ∧ Ran E ops o s.t s.m v m' ∧ AnyS E ops n x f (listed.setIfInBounds i true) ⟨put s.t o.dst v,m'⟩
theorem zq868 {listed : Array Bool} {i : Nat} (h : listed.getD i true = false) : listed.getD i false = false := by
 by_cases hi : i < listed.size
 ·simp [hi] at h ⊢; exact h
 ·simp [hi] at h
theorem zq3.step {listed : Array Bool} (hc : zq3 ops listed) {i : Nat} (hi : i ∈ Region.ready .any ops listed) : zq3 ops (listed.setIfInBounds i true) := by
 intro j o ho hj e he hb
 by_cases hji : j = i
 ·subst hji
  obtain ⟨_,o',ho',hall⟩ := mem_ready.1 hi
  rw [ho] at ho'
  cases ho'
  exact getD_set_true (hall e he hb)
 ·rw [getD_set_ne false (Ne.symm hji)] at hj
  exact getD_set_true (hc j o ho hj e he hb)
theorem zq1305 {T : Nat → TI} {t : List SV} {m m' : Mem} {op : Op} (h : regOp op = true) : opq T t m op = opq T t m' op := by
 cases op <;> first | rfl | (simp [regOp] at h; done) | skip
 ·rename_i o _ _
  cases o <;> rfl
 ·rename_i f _ _
  cases f <;> rfl
theorem zq1541 {o : Oper} {t : List SV} {m m' : Mem} {v : SV} (h : Ran E ops o t m v m') (hn : (opnil E.T o.type o.op).isNone = true) (hn2 : (opnl E.T [] [] o.type o.op).isNone = true) (hreg : regOp o.op = true) (hq : (opq E.T t m o.op).isSome = true) : m' = m ∧ ∀ mm,Ran E ops o t mm v mm := by
 cases h with
 | skip hv hm j want hg d hd hs => exact ⟨hm,fun mm => .skip hv rfl j want hg d hd hs⟩
 | run hr hw =>
  have hn' : opnil E.T o.type o.op = none := by simpa using hn
  have hnl : ∀ m',opnl E.T t m' o.type o.op = none := fun m' => zq1299 (.inl hq) hn2
  obtain ⟨⟨c,u⟩,hqv⟩ := Option.isSome_iff_exists.1 hq
  have hr' := hr
  unfold runO at hr'
  rw [zq1333 (.inl hq)] at hr'
  unfold opx0 at hr'
  simp only [hn',hnl,hqv] at hr'
  obtain ⟨hc,hr'⟩ := zq1561 hr'
  cases hr'
  subst hc
  refine ⟨rfl,fun mm => .run ?_ hw⟩
  unfold runO
  rw [zq1333 (.inl hq)]
  unfold opx0
  simp only [hn',hnl,zq1305 (m' := mm) hreg ▸ hqv]
  rfl
theorem zq444 (hE : EnvOk P E) {X : Type} {n : St → Option X} {x : X} {i : Nat} {oi : Oper} (hi : ops[i]? = some oi) {v : SV} (A : List SV → Prop) (I : Mem → Prop) :
  ∀ (fuel : Nat) (listed : Array Bool) (s : St),zq3 ops listed → A s.t → I s.m →
   (∀ j oj,ops[j]? = some oj → j ≠ i → listed.getD j true = false → Waits ops j i ∨ ((∀ (t : List SV) (mm : Mem) (u : SV) (m' : Mem),A t → I mm → Ran E ops oj t mm u m' → A (put t oj.dst u) ∧ I m') ∧ oi.apart ops oj = true)) →
   i ∈ Region.ready .any ops listed → (∀ mm,I mm → Ran E ops oi s.t mm v mm) →
   AnyS E ops n x fuel (listed.setIfInBounds i true) ⟨put s.t oi.dst v,s.m⟩ → AnyS E ops n x (fuel + 1) listed s := by
 intro fuel
 induction fuel with
 | zero =>
  intro listed s hc hA hI _ hr hq H
  refine ⟨fun h => (by rw [h] at hr; cases hr),fun j hj => ?_⟩
  by_cases hji : j = i
  ·subst hji
   exact ⟨oi,v,s.m,hi,hq s.m hI,H⟩
  ·have := ready_mono hj hji
   rw [H.1] at this
   cases this
 | succ fuel ih =>
  intro listed s hc hA hI hfree hr hq H
  refine ⟨fun h => (by rw [h] at hr; cases hr),fun j hj => ?_⟩
  by_cases hji : j = i
  ·subst hji
   exact ⟨oi,v,s.m,hi,hq s.m hI,H⟩
  ·obtain ⟨oj,u,m',hoj,hran,hrest⟩ := H.2 j (ready_mono hj hji)
   obtain ⟨hjun,oj',hoj',hall⟩ := mem_ready.1 hj
   rw [hoj] at hoj'
   cases hoj'
   have hiun := zq868 (mem_ready.1 hr).1
   have hnw : ¬ Waits ops j i := fun hw => by
    have := zq1845 hc hw (fun o ho => by rw [hoj] at ho; cases ho; exact hall)
    rw [hiun] at this
    cases this
   obtain ⟨hgrow,hap⟩ := (hfree j oj hoj hji hjun).resolve_left hnw
   obtain ⟨a1,a2,a3⟩ := Oper.apart_spec hap
   -- j,ahead of i
   have hsame : zq325 ops oj (put s.t oi.dst v) s.t := fun d hd => (zq866 (by intro he; exact a1 d he hd)).symm
   have hran' := hran.same hsame
   refine ⟨oj,u,m',hoj,hran',?_⟩
   have hsame2 : zq325 ops oi s.t (put s.t oj.dst u) := fun d hd => zq866 (by intro he; exact a3 d he hd)
   obtain ⟨hA',hI'⟩ := hgrow _ _ _ _ hA hI hran'
   refine ih (listed.setIfInBounds j true) ⟨put s.t oj.dst u,m'⟩ (hc.step hj) hA' hI' (fun k ok hk hki hun => ?_) (ready_mono hr (Ne.symm hji)) (fun mm hmm => ?_) ?_
   ·refine hfree k ok hk hki ?_
    by_cases hjk : j = k
    ·subst hjk; exact hjun
    ·rw [getD_set_ne true hjk] at hun; exact hun
   ·exact (hq mm hmm).same hsame2
   ·have e : put (put s.t oj.dst u) oi.dst v = put (put s.t oi.dst v) oj.dst u := (zq1472 s.t v u a2).symm
    show AnyS E ops n x fuel _ ⟨put (put s.t oj.dst u) oi.dst v,m'⟩
    rw [e,Array.setIfInBounds_comm _ _ hji]
    exact hrest
theorem zq435 {X : Type} {f : Nat → Option X} {x : X} : ∀ {l : List Nat},allB l f = some x → ∀ i ∈ l,f i = some x
 | [],h,_,_ => by cases h
 | [i],h,j,hj => by simp only [zc38] at hj; subst hj; exact h
 | i :: k :: r,h,j,hj => by
  simp only [allB,both] at h
  split at h
  ·rename_i he
   rcases zc28.1 hj with rfl | hj
   ·exact h
   ·rw [he] at h; exact zq435 h j hj
  ·cases h
theorem zq443 (hE : EnvOk P E) (hL : zq7 E) {X : Type} {n : St → Option X} {x : X} {f : Nat} {listed : Array Bool} {s : St} (hc : zq3 ops listed) {j : Nat} {o : Oper} (hjr : j ∈ Region.ready .any ops listed) (ho : ops[j]? = some o) (hstat : zq1694 E ops listed s j = true)
  (hquiet : ((opnil E.T o.type o.op).isNone = true ∧ (opnl E.T [] [] o.type o.op).isNone = true) ∧ ((opq E.T s.t s.m o.op).isSome = true ∨ ((!regOp o.op) = true ∧ (oprd E.T s.t s.m o.op).isSome = true))) {v : SV} {m' : Mem} (hran : Ran E ops o s.t s.m v m')
  (hS : AnyS E ops n x f (listed.setIfInBounds j true) ⟨put s.t o.dst v,s.m⟩) : AnyS E ops n x (f + 1) listed s := by
 have hq0 := hquiet.2.imp id fun h => h.2
 unfold zq1694 at hstat
 simp only [ho,zc4,zc17,List.mem_range,decide_eq_true_eq] at hstat
 obtain ⟨hlt,hall⟩ := hstat
 obtain ⟨rfl,_⟩ := zq1503 hran hquiet.1.1 hquiet.1.2 hq0
 -- the slots of the addresses of what is stored
 let D : Nat → Prop := fun d => ∃ (k : Nat) (ok : Oper) (ty : TypeId) (y : Operand),ops[k]? = some ok ∧ listed.getD k true = false ∧ ok.op = .store ty (.tmp d) y ∧ zq1790 s.t (zq1539 s.t o.op) ok.op = true ∧ zq1678 ops listed ok.op = true
 refine zq444 hE ho (fun t => ∀ d,D d → t.getD d .any = s.t.getD d .any) (fun mm => ∀ q ∈ zq1539 s.t o.op,mm[q]? = s.m[q]?) f listed s hc (fun _ _ => rfl) (fun _ _ => rfl) (fun k ok hk hki hun => ?_) hjr (fun mm hmm => ?_) hS
 ·have h1 := hall k (zc27.1 hk).1
  simp only [hk,Bool.or_eq_true,beq_iff_eq,zc4] at h1
  rcases h1 with (((h1 | h1) | h1) | h1) | h1
  ·exact absurd h1 hki
  ·exfalso
   rw [zq868 hun] at h1
   cases h1
  ·exact .inl (zq1844 h1)
  ·exfalso
   obtain ⟨_,o',ho',hal⟩ := mem_ready.1 hjr
   have := zq1845 hc (zq1844 h1) (fun o2 ho2 => by rw [ho'] at ho2; cases ho2; exact hal)
   have h3 := zq868 hun
   rw [h3] at this
   cases this
  ·refine .inr ⟨fun t mm u m' hA hI hr => ⟨fun d hd => ?_,fun q hq => ?_⟩,h1.2⟩
   ·have hne : ok.dst ≠ some d := fun he => by
     obtain ⟨k',ok',ty,y,_,_,hop',_,hsl⟩ := hd
     rw [hop'] at hsl
     simp only [zq1678,zc17,List.mem_range,Bool.or_eq_true] at hsl
     rcases hsl k (zc27.1 hk).1 with h | h
     ·rw [zq868 hun] at h; cases h
     ·rw [hk] at h
      simp [he] at h
    rw [zq866 (by intro he; exact hne he)]
    exact hA d hd
   ·have hmq := hI q hq
    have hql := hlt q hq
    have hlm : q < mm.length := by
     rcases Nat.lt_or_ge q mm.length with h | h
     ·exact h
     ·rw [zc22 h,zc0 hql] at hmq; cases hmq
    rw [← hmq]
    cases hr with
    | skip _ hm => rw [hm]
    | run hr0 _ =>
     rcases h1.1 with (hg | ⟨hst,hsl⟩) | ⟨hb,hro⟩
     ·obtain ⟨os,rfl⟩ := zq892 hE hL hg hr0
      rw [zc6 hlm]
     ·have hst0 := hst
      unfold zq1790 at hst
      split at hst
      ·rename_i ty d y hop
       split at hst
       ·rename_i jb off hd
        have hDd : D d := ⟨k,ok,ty,y,hk,hun,hop,hst0,hsl⟩
        refine zq1791 hop (j := jb) (off := off) (by simp only [ev]; rw [hA d hDd]; exact hd) hr0 (fun e => ?_) hlm
        subst e
        simp [hq] at hst
       ·cases hst
      ·cases hst
     ·have hbq := zc17.1 hb q hq
      split at hbq
      ·rename_i hblk
       exact zq1577 hro hr0 (by rw [hmq]; exact hblk)
      ·cases hbq
 ·cases hran with
  | skip hv hm i want hg d hd hs => exact .skip hv rfl i want hg d hd hs
  | run hr hw =>
   refine .run ?_ hw
   have hn' : opnil E.T o.type o.op = none := by simpa using hquiet.1.1
   have hnl : ∀ m',opnl E.T s.t m' o.type o.op = none := fun m' => zq1299 hq0 hquiet.1.2
   unfold runO at hr ⊢
   rw [zq1333 hq0] at hr ⊢
   unfold opx0 at hr ⊢
   simp only [hn',hnl] at hr ⊢
   cases hqv : opq E.T s.t s.m o.op with
   | some cv =>
    rw [zq1302 hmm hqv]
    simp only [hqv] at hr ⊢
    obtain ⟨hc',hr⟩ := zq1561 hr
    cases hr
    rw [hc']
    rfl
   | none =>
    rcases hq0 with h | h
    ·rw [hqv] at h; cases h
    ·obtain ⟨r,hrd⟩ := Option.isSome_iff_exists.1 h
     obtain ⟨ty,ad,hop⟩ : ∃ ty ad,o.op = .load ty ad := by
      cases hop : o.op <;> rw [hop] at hrd <;> simp only [oprd] at hrd <;> first | exact ⟨_,_,rfl⟩ | cases hrd
     have hqn : opq E.T s.t mm o.op = none := by
      cases hx : opq E.T s.t mm o.op with
      | none => rfl
      | some cv => rw [zq1302 (m := mm) (m' := s.m) (fun q hq => (hmm q hq).symm) hx] at hqv; cases hqv
     simp only [hqv,hqn] at hr ⊢
     rw [hop] at hr hrd ⊢
     have hrd' := zq1307 (m' := mm) (by rw [← hop]; exact hmm) hrd
     simp only [opa,opst,opap,opan,opsl,hrd,hrd'] at hr ⊢
     obtain ⟨y,hy,hr⟩ := zc8.1 hr
     rw [hy,zc49]
     split at hr
     ·rename_i u hu
      simp only [zc2,zc11] at hr
      obtain ⟨rfl,_⟩ := hr
      rfl
     ·cases hr
theorem zq445 (hE : EnvOk P E) (hL : zq7 E) {X : Type} {n : St → Option X} {x : X} : ∀ (f : Nat) (listed : Array Bool) (s : St),zq3 ops listed → anyX E ops n (f + 1) listed s = some x → AnyS E ops n x f listed s := by
 intro f
 induction f with
 | zero =>
  intro listed s hc h
  simp only [anyX] at h
  split at h
  ·rename_i hr; exact ⟨hr,h⟩
  ·rename_i i r hr
   have hop : ∀ j ∈ i :: r,∃ o,ops[j]? = some o := fun j hj => by
    rw [← hr] at hj
    obtain ⟨_,o,ho,_⟩ := mem_ready.1 hj
    exact ⟨o,ho⟩
   split at h
   ·rename_i j hj
    obtain ⟨o,ho⟩ := hop j (List.mem_of_find?_eq_some hj)
    obtain ⟨_,_,_,hk⟩ := zq1789 hE hL ho h
    cases hk
   ·obtain ⟨o,ho⟩ := hop i (by simp)
    obtain ⟨_,_,_,hk⟩ := zq1789 hE hL ho (zq435 h i (by simp))
    cases hk
 | succ f ih =>
  intro listed s hc h
  rw [anyX] at h
  split at h
  ·rename_i hr
   exact ⟨fun _ => h,fun i hi => by rw [hr] at hi; cases hi⟩
  ·rename_i i r hr
   have hop : ∀ j ∈ i :: r,j ∈ Region.ready .any ops listed ∧ ∃ o,ops[j]? = some o := fun j hj => by
    rw [← hr] at hj
    obtain ⟨_,o,ho,_⟩ := mem_ready.1 hj
    exact ⟨hj,o,ho⟩
   split at h
   ·rename_i j hj
    obtain ⟨hjr,o,ho⟩ := hop j (List.mem_of_find?_eq_some hj)
    have hp := List.find?_some hj
    simp only [zc4] at hp
    obtain ⟨hstat,hquiet⟩ := hp
    obtain ⟨v,m',hran,hk⟩ := zq1789 hE hL ho h
    unfold zq958 at hquiet
    simp only [ho,zc4,Bool.or_eq_true] at hquiet hstat
    rcases hstat with hstat | hstat
    rotate_left
    ·exact zq443 hE hL hc hjr ho hstat hquiet hran (ih _ _ (hc.step hjr) (by obtain ⟨hm,_⟩ := zq1503 hran hquiet.1.1 hquiet.1.2 (hquiet.2.imp id fun h => h.2); subst hm; exact hk))
    have hfree : ∀ (I : Mem → Prop),(∀ (k : Nat) (ok : Oper),ops[k]? = some ok → (regOp o.op = true ∨ zq891 E ok.op = true) → ∀ (t : List SV) (mm : Mem) (u : SV) (m' : Mem),I mm → Ran E ops ok t mm u m' → I m') →
      ∀ (k : Nat) (ok : Oper),ops[k]? = some ok → k ≠ j → listed.getD k true = false → Waits ops k j ∨ ((∀ (t : List SV) (mm : Mem) (u : SV) (m' : Mem),True → I mm → Ran E ops ok t mm u m' → True ∧ I m') ∧ o.apart ops ok = true) := by
     intro I hI k ok hk hki hun
     unfold zq1695 at hstat
     simp only [ho,zc17,List.mem_range] at hstat
     have h1 := hstat k (zc27.1 hk).1
     simp only [hk,Bool.or_eq_true,beq_iff_eq,zc4] at h1
     rcases h1 with ((h1 | h1) | h1) | h1
     ·exact absurd h1 hki
     ·exact .inl (zq1844 h1)
     ·exfalso
      obtain ⟨_,o',ho',hall⟩ := mem_ready.1 hjr
      have := zq1845 hc (zq1844 h1) (fun o2 ho2 => by rw [ho'] at ho2; cases ho2; exact hall)
      have h3 := zq868 hun
      rw [h3] at this
      cases this
     ·exact .inr ⟨fun t mm u m' _ hi hr => ⟨trivial,hI k ok hk h1.1 t mm u m' hi hr⟩,h1.2⟩
    by_cases hreg : regOp o.op = true
    ·have hq1 : (opq E.T s.t s.m o.op).isSome = true := by
      rcases hquiet.2 with h | h
      ·exact h
      ·rw [hreg] at h; simp at h
     obtain ⟨hm,hq⟩ := zq1541 hran hquiet.1.1 hquiet.1.2 hreg hq1
     subst hm
     exact zq444 hE ho (fun _ => True) (fun _ => True) f listed s hc trivial trivial (hfree _ fun _ _ _ _ _ _ _ _ _ _ => trivial) hjr (fun mm _ => hq mm) (ih _ _ (hc.step hjr) hk)
    ·obtain ⟨hm,hq⟩ := zq1503 hran hquiet.1.1 hquiet.1.2 (hquiet.2.imp id fun h => h.2)
     subst hm
     refine zq444 hE ho (fun _ => True) (fun mm => ∃ os,mm = s.m ++ os) f listed s hc trivial ⟨[],by simp⟩ (hfree _ fun k ok hk hg t mm u m' => ?_) hjr (fun mm ⟨os,e⟩ => e ▸ hq os) (ih _ _ (hc.step hjr) hk)
     rintro ⟨os,rfl⟩ hran2
     have hgrow := hg.resolve_left hreg
     cases hran2 with
     | run hr0 _ =>
      obtain ⟨os',e⟩ := zq892 hE hL hgrow hr0
      exact ⟨os ++ os',by rw [e,zc46]⟩
     | skip _ hm => exact ⟨os,hm⟩
   ·refine ⟨fun h0 => (by rw [hr] at h0; cases h0),fun j hj => ?_⟩
    rw [hr] at hj
    obtain ⟨hjr,o,ho⟩ := hop j hj
    obtain ⟨v,m',hran,hk⟩ := zq1789 hE hL ho (zq435 h j hj)
    exact ⟨o,v,m',ho,hran,ih _ _ (hc.step hjr) hk⟩
variable {W : World} {X : Type}
theorem ran_wp (hE : zq5 P E W) {i : Nat} {o : Oper} (ho : ops[i]? = some o) {Q : Exit → Act → World → Prop} {s : St} {ρ : Nat → Value} {a : Act} {w : World} (hs : RelS W ρ s a w) {v : SV} {m' : Mem} (h : Ran E ops o s.t s.m v m') {K : Act → World → Prop}
  (hK : ∀ ρ' a' w',Agree s.m.length ρ ρ' → s.m.length ≤ m'.length → RelS W ρ' ⟨put s.t o.dst v,m'⟩ a' w' → K a' w') : wpOp P ops Q i K a w := by
 unfold wpOp
 simp only [ho]
 cases h with
 | run hr hw =>
  have hwant : Region.wanted o (yielded ops a.tmps) = true := by
   cases hg : o.guard with
   | none => simp [Region.wanted,hg]
   | some jw =>
    obtain ⟨j,want⟩ := jw
    obtain ⟨d,hd,he⟩ := hw j want hg
    have hy := zq1856 hs.t (ops := ops) (j := j) (d := d) (by rw [zc25]; exact hd) he
    simp [Region.wanted,hg,hy]
  rw [if_pos hwant]
  refine .inl (zq1332 hE hs.t hs.m hs.d hr fun ρ' u m2 a' w' hag hle hs' hk => ?_)
  cases hk
  exact hK ρ' a' w' hag hle hs'
 | skip hv hm j want hg d hd hss =>
  subst hv hm
  have hwant : Region.wanted o (yielded ops a.tmps) = false := by
   rcases hss with he | he
   ·have hy := zq1856 hs.t (ops := ops) (j := j) (d := d) (by rw [zc25]; exact hd) he
    cases want <;> simp [Region.wanted,hg,hy]
   ·have hy := zq1857 hs.t (ops := ops) (j := j) (d := d) (by rw [zc25]; exact hd) he
    simp [Region.wanted,hg,hy]
  rw [if_neg (by simp [hwant])]
  exact hK ρ _ w (Agree.refl _ _) (zc47 _) ⟨hs.t.put o.dst (fun _ => ⟨rfl,rfl⟩),hs.m,by rw [zq1473]; exact hs.d⟩
theorem zq446 (hE : zq5 P E W) {n : St → Option X} {x : X} {Q : Exit → Act → World → Prop} : ∀ (f : Nat) (listed : Array Bool) (s : St) (ρ : Nat → Value) (a : Act) (w : World),RelS W ρ s a w → AnyS E ops n x f listed s →
  (∀ ρ' s' a' w',Agree s.m.length ρ ρ' → s.m.length ≤ s'.m.length → RelS W ρ' s' a' w' → n s' = some x → Q .normal a' w') → wpAny P .any ops Q f listed a w
 | 0,listed,s,ρ,a,w,hs,h,hQ => ⟨h.1,hQ ρ s a w (Agree.refl _ _) (zc47 _) hs h.2⟩
 | f + 1,listed,s,ρ,a,w,hs,h,hQ => by
  refine ⟨fun hr => hQ ρ s a w (Agree.refl _ _) (zc47 _) hs (h.1 hr),fun i hi => ?_⟩
  obtain ⟨o,v,m',ho,hran,hrest⟩ := h.2 i hi
  refine ran_wp hE ho hs hran fun ρ' a' w' hag hle hs' => ?_
  exact zq446 hE f _ _ ρ' a' w' hs' hrest fun ρ'' s'' a'' w'' hag' hle' hs'' hn => hQ ρ'' s'' a'' w'' (hag.trans hag' hle) (Nat.le_trans hle hle') hs'' hn
theorem zq447 (hE : zq5 P E W) {id base : Nat} {s : St} {n : St → Option X} {e : Nat → St → Option X} {r : St → Option X} {x : X} (h : anyX (lawE E) ops n (ops.size + 1) (Array.replicate ops.size false) s = some x) :
  CodeN ⟨P,W⟩ base (.region id ops true) s (fun s' => n s' = some x) (fun i s' => e i s' = some x) (fun s' => r s' = some x) := by
 refine ⟨fun hb ρ a w Q hs hn _ _ => ?_⟩
 have hS := zq445 (zq984 hE.toEnvOk) (zq983 E) ops.size _ s (fun j o ho hj => by
  exfalso
  simp only [Array.getD_eq_getD_getElem?,Array.getElem?_replicate] at hj
  split at hj <;> simp at hj) h
 refine wp_region_any hE.T.mixed ?_
 exact zq446 ⟨zq984 hE.toEnvOk,hE.glob⟩ _ _ s ρ a _ ⟨hs.t,hs.m.drawn _,hs.d⟩ hS fun ρ' s' a' w' hag hle hs' hk => hn ρ' s' a' w' (hag.mono hb) (Nat.le_trans hb hle) hs' hk
end
section
variable {P : Program} {W : World} {E : Env}
theorem zq964 {X : Type} {x : X} {base : Nat} {cc : Code} {s : St} {n : St → Option X} {e : Nat → St → Option X} {r : St → Option X} {js : JoinS} {y0 : OutT js.exits}
  (hc : CodeN ⟨P,W⟩ base cc s (fun s' => outF js.n base js.exits (some BIG) s' = some y0) (fun i s' => (bif Nat.beq i BIG then none else outF js.n base js.exits (some i) s') = some y0) (fun s' => outF js.n base js.exits none s' = some y0))
  (hgo : goOn js.n (joinE n e) r js.exits y0 = some x) (hb : base ≤ s.m.length) {ρ : Nat → Value} {a : Act} {w : World} {Q : Exit → Act → World → Prop} (hs : RelS W ρ s a w)
  (hn : ∀ ρ' s' a' w',Agree base ρ ρ' → base ≤ s'.m.length → RelS W ρ' s' a' w' → n s' = some x → Q .normal a' w')
  (he : ∀ i ρ' s' a' w',Agree base ρ ρ' → base ≤ s'.m.length → RelS W ρ' s' a' w' → e i s' = some x → Q (.exit i) a' w')
  (hr : ∀ ρ' s' a' w',Agree base ρ ρ' → base ≤ s'.m.length → RelS W ρ' s' a' w' → r s' = some x → Q .ret a' w') : Code.wp P cc Q a w :=
 hc.code hb ρ a w Q hs
  (fun ρ'' s'' a'' w'' hag' hle' hs'' hk => by
   obtain ⟨f,u,hf,hgo'⟩ := zq1353 js.exits (some BIG) s'' y0 hk hgo
   obtain ⟨ρ3,hs3,hag3,hle3⟩ := hs''.form hf
   exact hn ρ3 _ a'' w'' (hag'.trans hag3 (zc47 _)) hle3 hs3 hgo')
  (fun i ρ'' s'' a'' w'' hag' hle' hs'' hk => by
   cases hi : Nat.beq i BIG
   ·rw [hi] at hk
    obtain ⟨f,u,hf,hgo'⟩ := zq1353 js.exits (some i) s'' y0 hk hgo
    obtain ⟨ρ3,hs3,hag3,hle3⟩ := hs''.form hf
    have hgo2 : joinE n e i (stF js.n f u) = some x := hgo'
    unfold joinE at hgo2
    rw [hi] at hgo2
    exact he i ρ3 _ a'' w'' (hag'.trans hag3 (zc47 _)) hle3 hs3 hgo2
   ·rw [hi] at hk
    cases hk)
  (fun ρ'' s'' a'' w'' hag' hle' hs'' hk => by
   obtain ⟨f,u,hf,hgo'⟩ := zq1353 js.exits none s'' y0 hk hgo
   obtain ⟨ρ3,hs3,hag3,hle3⟩ := hs''.form hf
   exact hr ρ3 _ a'' w'' (hag'.trans hag3 (zc47 _)) hle3 hs3 hgo')
theorem ix_ok {X : Type} (hE : zq5 P E W) {x : X} {base : Nat} : ∀ (c : Code) (s : St) (n : St → Option X) (e : Nat → St → Option X) (r : St → Option X),zq8 P E c → ix E base c s n e r = some x →
  CodeN ⟨P,W⟩ base c s (fun s' => n s' = some x) (fun i s' => e i s' = some x) (fun s' => r s' = some x)
 | .skip,s,n,e,r,_,h => ⟨fun hb ρ a w Q hs hn _ _ => wp_skip (hn ρ s a w (Agree.refl _ _) hb hs h)⟩
 | .region i ops false,s,n,e,r,_,h => ⟨fun hb ρ a w Q hs hn _ _ => wp_region_list (zq1321 hE _ ops.toList s ρ a w hs h fun ρ' s' a' w' hag hle => hn ρ' s' a' w' (hag.mono hb) (Nat.le_trans hb hle))⟩
 | .region i ops true,s,n,e,r,_,h => by
   simp only [ix] at h
   cases hqb : ops.toList.all (fun o => zq1504 E o.op)
   ·rw [hqb] at h
    simp only [cond_false] at h
    cases hns : Region.noSelect ops
    ·rw [hns] at h; cases h
    ·rw [hns] at h
     simp only [cond_true] at h
     exact zq447 hE h
   rw [hqb] at h
   simp only [cond_true] at h
   split at h
   ·rename_i hlex
    refine ⟨fun hb ρ a w Q hs hn _ _ => ?_⟩
    refine wp_region_quiet (C := RelM W ρ s.m) hE.T.mixed hlex (hs.m.drawn _) ?_
    refine zq1325 hE hs.m.lt _ ops.toList s.t a hs.t hs.d h fun t' a' ht' hd' hk w' hw' => ?_
    exact hn ρ ⟨t',s.m⟩ a' w' (Agree.refl _ _) hb ⟨ht',hw',hd'⟩ hk
   ·cases h
 | .seq y z,s,n,e,r,hl,h => ⟨fun hb ρ a w Q hs hn he hr => by
   have hl1 : zq8 P E y := fun b hb => hl b (by simp [zq1180,hb])
   have hl2 : zq8 P E z := fun b hb => hl b (by simp [zq1180,hb])
   refine wp_seq ((ix_ok hE y s _ e r hl1 h).code hb ρ a w _ hs (fun ρ' s' a' w' hag hle hs' hk => ?_) he hr)
   exact (ix_ok hE z s' n e r hl2 hk).code hle ρ' a' w' Q hs' (fun ρ'' s'' a'' w'' hag' hle' hs'' hn' => hn ρ'' s'' a'' w'' (hag.trans hag' (zc47 _)) hle' hs'' hn')
    (fun i ρ'' s'' a'' w'' hag' hle' hs'' hn' => he i ρ'' s'' a'' w'' (hag.trans hag' (zc47 _)) hle' hs'' hn')
    (fun ρ'' s'' a'' w'' hag' hle' hs'' hn' => hr ρ'' s'' a'' w'' (hag.trans hag' (zc47 _)) hle' hs'' hn')⟩
 | .cond c y z,s,n,e,r,hl,h => ⟨fun hb ρ a w Q hs hn he hr => by
   have hl1 : zq8 P E y := fun b hb => hl b (by simp [zq1180,hb])
   have hl2 : zq8 P E z := fun b hb => hl b (by simp [zq1180,hb])
   simp only [ix] at h
   split at h
   ·rename_i ex hc
    have := (hs.t.ev c (by rw [hc]; rfl)).2
    rw [hc] at this
    simp only [den] at this
    refine wp_cond this ?_
    split at h
    ·rename_i js _
     obtain ⟨y0,hy,hgo⟩ := zc8.1 h
     rcases zq516 hy with ⟨hx,hy⟩ | ⟨hx,hy⟩
     ·subst hx
      simp only [if_true]
      exact zq964 (ix_ok hE y s _ _ _ hl1 hy) hgo hb hs hn he hr
     ·subst hx
      simp only [zc16,if_false]
      exact zq964 (ix_ok hE z s _ _ _ hl2 hy) hgo hb hs hn he hr
    rcases zq516 h with ⟨hx,h⟩ | ⟨hx,h⟩
    ·subst hx
     simp only [if_true]
     exact (ix_ok hE y s n e r hl1 h).code hb ρ a w Q hs hn he hr
    ·subst hx
     simp only [zc16,if_false]
     exact (ix_ok hE z s n e r hl2 h).code hb ρ a w Q hs hn he hr
   ·cases h⟩
 | .block i y,s,n,e,r,hl,h => ⟨fun hb ρ a w Q hs hn he hr => by
   refine wp_block ((ix_ok hE y s n _ r (fun b hb => hl b (by simp [zq1180,hb])) h).code hb ρ a w _ hs hn (fun j ρ' s' a' w' hag hle hs' hk => ?_) hr)
   simp only [Exit.inBlock]
   cases hji : (j == i)
   ·rw [hji] at hk
    rw [if_neg (by simpa using hji)]
    exact he j ρ' s' a' w' hag hle hs' hk
   ·rw [hji] at hk
    rw [if_pos (by simpa using hji)]
    exact hn ρ' s' a' w' hag hle hs' hk⟩
 | .loop b,s,n,e,r,hl,h => by
   simp only [ix] at h
   split at h
   ·rename_i l hb
    have := hl b (by simp [zq1180]) l hb W hE.glob X base s e r x h
    exact ⟨fun hb ρ a w Q hs _ he hr => this.code hb ρ a w Q hs (fun _ _ _ _ _ _ _ hf => hf.elim) he hr⟩
   ·cases h
 | .exit i,s,n,e,r,_,h => ⟨fun hb ρ a w Q hs _ he _ => wp_exit (he i ρ s a w (Agree.refl _ _) hb hs h)⟩
 | .ret,s,n,e,r,_,h => ⟨fun hb ρ a w Q hs _ _ hr => wp_ret (hr ρ s a w (Agree.refl _ _) hb hs h)⟩
 | .rangeFunc ..,_,_,_,_,_,h => by simp only [ix] at h; cases h
 | .scope _,_,_,_,_,_,h => by simp only [ix] at h; cases h
 | .label _,_,_,_,_,_,h => by simp only [ix] at h; cases h
 | .goto _,_,_,_,_,_,h => by simp only [ix] at h; cases h
 | .refuse _,_,_,_,_,_,h => by simp only [ix] at h; cases h
end
end Go.Ma
namespace Go.Ma
open Go Go.RowKit
section
variable {T : Nat → TI}
theorem zq1195 {n : Nat} {cs l : List SV} {off k : Nat} (h : zq1803 cs off k = some l) {ty : TypeId} {own : Bool} (hb : (Obj.blk cs ty own).lt n = true) : ltL n l = true := by
 obtain ⟨rfl,_,_,hone⟩ := zq1804 h
 simp only [Obj.lt,zc17,Bool.or_eq_true] at hb
 rw [zq1191,zc17]
 exact fun c hc => (hb c (List.mem_of_mem_drop (List.mem_of_mem_take hc))).resolve_left (by simp [zq1280 (hone c hc)])
theorem zq1833 {n : Nat} {ti : TI} {l : List SV} {v : SV} (h : valOf ti l = some v) (hl : ltL n l = true) : v.lt n = true := by
 unfold valOf at h
 split at h
 ·injection h with h; subst h; simpa [SV.lt] using hl
 ·split at h
  ·injection h with h; subst h; simpa [ltL] using hl
  ·cases h
def zq1569 (tmps : Array Value) : ResultVar → Sem Value
 | .tmp t => pure (tmps.getD t undef)
 | .cell a t => do loadVar t (← asAddr (tmps.getD a undef))
theorem zq1572 (fn : Func) (tmps : Array Value) : results fn tmps = (do let vs ← fn.results.mapM (zq1569 tmps); pure (if h : vs.size = 1 then vs[0] else .tuple vs)) := by
 unfold results zq1569
 rfl
theorem zq1564 {P : Program} (hT : TOk P T) {W : World} {ρ : Nat → Value} {s : St} {a : Act} {w : World} (hs : RelS W ρ s a w) {r : ResultVar} {v : SV} (h : resC T s r = some v) :
  (zq1569 a.tmps r).run P w = .ok (den ρ v) w ∧ v.lt s.m.length = true := by
 cases r with
 | tmp t =>
  simp only [resC] at h
  split at h
  ·cases h
  ·rename_i hany
   injection h with h
   subst h
   obtain ⟨h1,h2⟩ := hs.t.ev (.tmp t) (by simpa [ev] using hany)
   simp only [ev,Act.eval] at h1 h2
   exact ⟨by simp [zq1569,h2],h1⟩
 | cell ad ty =>
  simp only [resC] at h
  split at h
  ·rename_i j off hj
   split at h
   ·rename_i cs bt own hm
    split at h
    ·rename_i hk
     obtain ⟨l,hl,hv⟩ := zc8.1 h
     have h2 := (hs.t.ev (.tmp ad) (by simp only [ev]; rw [hj]; rfl)).2
     simp only [ev,Act.eval,hj] at h2
     obtain ⟨b,arr,hb,hh,_,hc⟩ := hs.m.blk hm
     simp only [den,hb,zq1465,zq395,Nat.zero_add] at h2
     obtain ⟨_,hlen,hget,hone⟩ := zq1804 hl
     have hrun := zq1594 (hT.ty ty hk) (w := w) (a := ⟨b,off,none⟩) (ρ := ρ) hlen hv (fun i c hi => by
      rw [zq395,zq543 hh]
      have hil : i < (T ty).size := by rw [← hlen]; exact (zc1.1 hi).1
      have := hget i hil
      rw [hi] at this
      exact hc _ c this (zq1280 (hone c (zc5 hi))))
     exact ⟨by simp [zq1569,h2,asAddr,hrun],zq1833 hv (zq1195 hl (hs.m.lt j _ hm))⟩
    ·cases h
   ·cases h
  ·cases h
theorem zq1566 {P : Program} (hT : TOk P T) {W : World} {ρ : Nat → Value} {s : St} {a : Act} {w : World} (hs : RelS W ρ s a w) : ∀ {rs : List ResultVar} {l : List SV},resL T s rs = some l →
  (rs.mapM (zq1569 a.tmps)).run P w = .ok (denL ρ l) w ∧ ltL s.m.length l = true
 | [],l,h => by simp only [resL,zc2] at h; subst h; exact ⟨by simp [denL],rfl⟩
 | r :: rs,l,h => by
  simp only [resL] at h
  split at h
  ·rename_i v l' hv hl
   injection h with h
   subst h
   obtain ⟨h1,h2⟩ := zq1564 hT hs hv
   obtain ⟨h3,h4⟩ := zq1566 hT hs hl
   refine ⟨?_,by simp [ltL,h2,h4]⟩
   rw [List.mapM_cons,Sem.run_bind,h1]
   simp only [Result.andThen_ok,Sem.run_bind,h3,Sem.run_pure,denL]
  ·cases h
end
theorem zq536 {P : Program} {W : World} {E : Env} {X : Type} (hE : zq5 P E W) {f : FuncId} {fn : Func} {args : List SV} {m : Mem} {k : SV → Mem → Option X} {x : X} (hf : P.funcs[f]? = some fn)
  (hl : ∀ c,fn.body = some c → zq8 P E c) (hlt : ltL m.length args = true) (h : ixF E fn args m k = some x) {ρ : Nat → Value} {w : World} (hm : RelM W ρ m w) :
  Calls P f (denL ρ args).toArray w fun e w' => ∃ ρ' r m',e = .returned (den ρ' r) ∧ RelM W ρ' m' w' ∧ Agree m.length ρ ρ' ∧ m.length ≤ m'.length ∧ (r.isAny = false → r.lt m'.length = true) ∧ k r m' = some x := by
 have hT := hE.T
 have hend : ∀ ρ' (s' : St) a' w',Agree m.length ρ ρ' → m.length ≤ s'.m.length → RelS W ρ' s' a' w' → fin E.T fn.results.toList k s' = some x →
   a'.defers = [] ∧ ∃ v,(results fn a'.tmps).run P w' = .ok v w' ∧ ∃ ρ'' r m',Ending.returned v = .returned (den ρ'' r) ∧ RelM W ρ'' m' w' ∧ Agree m.length ρ ρ'' ∧ m.length ≤ m'.length ∧ (r.isAny = false → r.lt m'.length = true) ∧ k r m' = some x := by
  intro ρ' s' a' w' hag hle hs' hfin
  refine ⟨hs'.d,?_⟩
  unfold fin at hfin
  have hrun : ∀ l,resL E.T s' fn.results.toList = some l → (results fn a'.tmps).run P w' = .ok (if h : (denL ρ' l).toArray.size = 1 then (denL ρ' l).toArray[0] else .tuple (denL ρ' l).toArray) w' ∧ ltL s'.m.length l = true := by
   intro l hl
   obtain ⟨h1,h2⟩ := zq1566 hT hs' hl
   refine ⟨?_,h2⟩
   rw [zq1572,Sem.run_bind,Array.mapM_eq_mapM_toList,Sem.run_map,h1]
   rfl
  split at hfin
  ·rename_i v hv
   obtain ⟨h1,h2⟩ := hrun _ hv
   refine ⟨_,h1,ρ',v,s'.m,?_,hs'.m,hag,hle,fun _ => by simpa [ltL] using h2,hfin⟩
   simp [denL]
  ·rename_i l hne hl
   obtain ⟨h1,h2⟩ := hrun _ hl
   refine ⟨_,h1,ρ',.tup l,s'.m,?_,hs'.m,hag,hle,fun _ => by simpa [SV.lt] using h2,hfin⟩
   have : l.length ≠ 1 := by
    intro h
    match l,h with
    | [v],_ => exact hne v rfl
   simp [zq710,this,den]
  ·cases hfin
 unfold ixF at h
 split at h
 ·rename_i c hb
  refine calls_of_wp hf hb ?_
  refine (ix_ok hE c _ _ _ _ (hl c hb) h).code (zc47 _) ρ _ w _ ⟨⟨?_,?_⟩,hm,rfl⟩ (fun ρ' s' a' w' hag hle hs' hk => hend ρ' s' a' w' hag hle hs' hk) (fun i ρ' s' a' w' _ _ _ hk => by cases hk) (fun ρ' s' a' w' hag hle hs' hk => hend ρ' s' a' w' hag hle hs' hk)
  ·simp
  ·intro i sv hi hs
   rw [zc29] at hi
   split at hi
   ·rename_i hil
    rw [zq1191,zc17] at hlt
    refine ⟨hlt sv (zc5 hi),?_⟩
    rw [Array.getElem?_append_left (by simpa using hil),List.getElem?_toArray,zq711,zc31,hi]
    rfl
   ·have := zc5 hi
    simp only [List.mem_replicate] at this
    rw [this.2] at hs
    cases hs
 ·cases h
def zq919 (E : Env) (fn : Func) : Con := { tr := fun _ args m k => ixF E fn args m k,q := false,law := false }
theorem zq920 {P : Program} {E : Env} (hE : EnvOk P E) {f : FuncId} {fn : Func} (hf : P.funcs[f]? = some fn) (hl : ∀ c,fn.body = some c → zq8 P E c) : TrOk P f (zq919 E fn) :=
 ⟨fun _ hG _ _ _ _ _ h _ => ⟨fun hlt _ _ hm => zq536 ⟨hE,hG⟩ hf hl hlt h hm⟩,fun h => (by cases h),fun h => by cases h⟩
inductive Seg where
 | fl (k : K)
 | row (k : K) (ty : TypeId)
 /-- A row of elements that have a slice each; of a result: are the slices the caller's own? -/
 | nest (hk ik : K) (ty ity : TypeId) (bo : Bool)
def Seg.T : Seg → Type
 | .fl k => k.T
 | .row k _ => List k.T
 | .nest hk ik _ _ _ => List hk.T × List (List ik.T)
def SegsT : List Seg → Type
 | [] => Unit
 | s :: r => s.T × SegsT r
inductive PS where
 | one (s : Seg)
 | agg (l : List Seg)
 | ref (l : List Seg) (ty : TypeId)
def PS.T : PS → Type
 | .one s => s.T
 | .agg l => SegsT l
 | .ref l _ => SegsT l
def PsT : List PS → Type
 | [] => Unit
 | p :: r => p.T × PsT r
def rdRow (m : Mem) (k : K) : SV → Option (List k.T)
 | .row j => (match m[j]? with | some (.row (.ty k' l) _ _) => if h : k' = k then some (castL h l) else none | _ => none)
 | .inn j i => (match m[j]? with | some (.bag k' ls _ _ _) => if h : k' = k then some (castL h (getL ls i)) else none | _ => none)
 | .v (.slice none 0 0) => some []
 | _ => none
def zq1519 (m : Mem) (hk ik : K) : SV → Option (List hk.T × List (List ik.T))
 | .row j => (match m[j]? with
  | some (.row (.nest k l jb) _ _) => (match m[jb]? with | some (.bag k' ls _ _ _) => if h : k = hk ∧ k' = ik then some (castL h.1 l,zq537 h.2 ls) else none | _ => none)
  | _ => none)
 | .v (.slice none 0 0) => some ([],[])
 | _ => none
def zq697 (m : Mem) : (l : List Seg) → List SV → Option (SegsT l)
 | [],[] => some ()
 | [],_ :: _ => none
 | .fl k :: r,cs => match k.dec (cs.take k.sz),zq697 m r (cs.drop k.sz) with | some a,some b => some (a,b) | _,_ => none
 | .row _ _ :: _,[] => none
 | .row k _ :: r,c :: cs => match rdRow m k c,zq697 m r cs with | some a,some b => some (a,b) | _,_ => none
 | .nest _ _ _ _ _ :: _,[] => none
 | .nest hk ik _ _ _ :: r,c :: cs => match zq1519 m hk ik c,zq697 m r cs with | some a,some b => some (a,b) | _,_ => none
def decFl (k : K) (v : SV) : Option k.T := bif k.isAgg then v.parts.bind k.dec else k.dec [v]
def decSeg (m : Mem) : (s : Seg) → SV → Option s.T
 | .fl k,v => decFl k v
 | .row k _,v => rdRow m k v
 | .nest hk ik _ _ _,v => zq1519 m hk ik v
def blkOf (m : Mem) (ty : TypeId) : SV → Option (List SV)
 | .ptr j 0 => (match m[j]? with | some (.blk cs bt _) => if bt == ty && cs.all (fun c => !c.isAny) then some cs else none | _ => none)
 | _ => none
def decP (m : Mem) : (p : PS) → SV → Option p.T
 | .one s,v => decSeg m s v
 | .agg l,v => v.parts.bind (zq697 m l)
 | .ref l ty,v => (blkOf m ty v).bind (zq697 m l)
def decA (m : Mem) : (ps : List PS) → List SV → Option (PsT ps)
 | [],[] => some ()
 | p :: r,v :: vs => match decP m p v,decA m r vs with | some a,some b => some (a,b) | _,_ => none
 | _,_ => none
def zq744 (own : Bool) : (l : List Seg) → SegsT l → Nat → List SV × Mem
 | [],_,_ => ([],[])
 | .fl k :: r,x,n => (k.enc x.1 ++ (zq744 own r x.2 n).1,(zq744 own r x.2 n).2)
 | .row k ty :: r,x,n => (.row n :: (zq744 own r x.2 (n + 1)).1,.row (.ty k x.1) ty own :: (zq744 own r x.2 (n + 1)).2)
 | .nest hk ik ty ity bo :: r,x,n => (.row (n + 1) :: (zq744 own r x.2 (n + 2)).1,.bag ik x.1.2 ity (own && bo) own :: .row (.nest hk x.1.1 n) ty own :: (zq744 own r x.2 (n + 2)).2)
def flV (k : K) (a : k.T) : SV := bif k.isAgg then .agg (k.enc a) else (k.enc a).headD .any
def zq743 (own : Bool) : (s : Seg) → s.T → Nat → SV × Mem
 | .fl k,x,_ => (flV k x,[])
 | .row k ty,x,n => (.row n,[.row (.ty k x) ty own])
 | .nest hk ik ty ity bo,x,n => (.row (n + 1),[.bag ik x.2 ity (own && bo) own,.row (.nest hk x.1 n) ty own])
def encP (own : Bool) : (p : PS) → p.T → Nat → SV × Mem
 | .one s,x,n => zq743 own s x n
 | .agg l,x,n => (.agg (zq744 own l x n).1,(zq744 own l x n).2)
 | .ref l ty,x,n => (.ptr n 0,.blk (zq744 own l x (n + 1)).1 ty own :: (zq744 own l x (n + 1)).2)
def encA (own : Bool) : (ps : List PS) → PsT ps → Nat → List SV × Mem
 | [],_,_ => ([],[])
 | p :: r,x,n => ((encP own p x.1 n).1 :: (encA own r x.2 (n + (encP own p x.1 n).2.length)).1,(encP own p x.1 n).2 ++ (encA own r x.2 (n + (encP own p x.1 n).2.length)).2)
theorem zq831 (ρ ρ' : Nat → Value) {k : K} {v : SV} {a : k.T} (h : decFl k v = some a) : den ρ' (flV k a) = den ρ v ∧ ∀ n,(flV k a).lt n = true := by
 have hd := zq709 ρ ρ' k a
 have hl : ∀ n,ltL n (k.enc a) = true := fun n => by cases k <;> rfl
 unfold decFl at h
 unfold flV
 cases hk : k.isAgg
 ·rw [hk] at h
  simp only [cond_false] at h ⊢
  obtain ⟨h1,_⟩ := zq700 k _ a h
  rw [← h1] at hd hl ⊢
  simp only [denL,List.cons.injEq,and_true] at hd
  exact ⟨hd,fun n => by simpa [ltL] using hl n⟩
 ·rw [hk] at h
  simp only [cond_true] at h ⊢
  obtain ⟨l,hv,h⟩ := zc8.1 h
  obtain ⟨h1,_⟩ := zq700 k _ a h
  unfold SV.parts at hv
  split at hv
  ·injection hv with hv
   subst hv
   refine ⟨?_,fun n => hl n⟩
   simp only [den]
   rw [hd,h1]
  ·cases hv
def Gives (ρ : Nat → Value) (n : Nat) (vs : List Value) : Prop := ∀ i v,vs[i]? = some v → ρ (n + i) = v
theorem Gives.tail {ρ : Nat → Value} {n : Nat} {v : Value} {vs : List Value} (h : Gives ρ n (v :: vs)) : Gives ρ (n + 1) vs := fun i u hu => by
 have := h (i + 1) u (by simpa using hu)
 rw [show n + 1 + i = n + (i + 1) by omega]
 exact this
theorem Gives.head {ρ : Nat → Value} {n : Nat} {v : Value} {vs : List Value} (h : Gives ρ n (v :: vs)) : ρ n = v := h 0 v rfl
theorem Gives.left {ρ : Nat → Value} {n : Nat} {vs us : List Value} (h : Gives ρ n (vs ++ us)) : Gives ρ n vs := fun i u hu => h i u (by
 have := (zc1.1 hu).1
 rw [zc6 this]; exact hu)
theorem Gives.right {ρ : Nat → Value} {n : Nat} {vs us : List Value} (h : Gives ρ n (vs ++ us)) : Gives ρ (n + vs.length) us := fun i u hu => by
 rw [Nat.add_assoc]
 exact h (vs.length + i) u (by rw [zc12 (by omega)]; simpa using hu)
theorem zq1520 {W : World} {ρ : Nat → Value} {m : Mem} {w : World} (hm : RelM W ρ m w) {k : K} {v : SV} {l : List k.T} (h : rdRow m k v = some l) : RowIs w (den ρ v) l.length k.sz (l.flatMap fun a => denL ρ (k.enc a)) ∧ (∃ A n c,den ρ v = .slice A n c) := by
 unfold rdRow at h
 split at h
 ·rename_i j
  split at h
  ·rename_i k' l' ty own hj
   split at h
   ·rename_i hk
    subst hk
    injection h with h
    subst h
    have hr := hm.rowIs hj
    have hv := zq1582 hm hj
    rw [hv]
    obtain ⟨_,A,cap,hρ,_⟩ := id hr
    exact ⟨hr,A,_,cap,hρ⟩
   ·cases h
  ·cases h
 ·rename_i j i
  split at h
  ·rename_i k' ls ty own fr hj
   split at h
   ·rename_i hk
    subst hk
    injection h with h
    subst h
    have hr := hm.inn hj i
    obtain ⟨_,A,cap,hρ,_⟩ := id hr
    exact ⟨hr,A,_,cap,hρ⟩
   ·cases h
  ·cases h
 ·injection h with h
  subst h
  refine ⟨⟨by simp,none,0,rfl,zc47 _,by unfold maxLen; omega,fun _ => rfl,fun a ha => by cases ha⟩,none,0,0,rfl⟩
 ·cases h
theorem zq840 (ρ : Nat → Value) (k : K) (l : List k.T) : ∀ u ∈ (l.flatMap fun a => denL ρ (k.enc a)),oneC u = true := by
 intro u hu
 simp only [List.mem_flatMap,zq711,List.mem_map] at hu
 obtain ⟨a,_,c,hc,rfl⟩ := hu
 exact zq1282 (zq747 k a c hc)
theorem zq1578 {W w : World} {ρ ρ' : Nat → Value} {v : Value} {k : K} {l : List k.T} (ty : TypeId) (h : RowIs w v l.length k.sz (l.flatMap fun a => denL ρ (k.enc a))) : ObjIs W w ρ' v (.row (.ty k l) ty false) := by
 have e : (C.ty k l).den ρ' = (l.flatMap fun a => denL ρ (k.enc a)) := by simp only [C.den]; congr 1; funext a; exact zq709 ρ ρ' k a
 refine ⟨(zq1801 k : 0 < k.sz),fun u hu => ?_,?_⟩
 ·rw [e] at hu; exact zq840 ρ k l u hu
 ·rw [if_neg (by simp),e]; exact h
theorem zq746 (k : K) (a : k.T) (n : Nat) : ltL n (k.enc a) = true := by cases k <;> rfl
structure zq0 (w : World) (ρ : Nat → Value) (n : Nat) (vals : List Value) (svs : List SV) (os : Mem) (vs : List Value) : Prop where
 len : vs.length = os.length
 den : ∀ ρ',Gives ρ' n vs → denL ρ' svs = vals
 obj : ∀ W ρ',Gives ρ' n vs → ∀ (i : Nat) (o : Obj) (v : Value),os[i]? = some o → vs[i]? = some v → ObjIs W w ρ' v o ∧ o.mutB = false
 lt : ltL (n + os.length) svs = true ∧ ∀ o ∈ os,o.lt (n + os.length) = true
theorem zq0.nil (w : World) (ρ : Nat → Value) (n : Nat) : zq0 w ρ n [] [] [] [] := ⟨rfl,fun _ _ => rfl,fun _ _ _ i o v h => by simp at h,rfl,fun o h => by cases h⟩
theorem zq0.app {w : World} {ρ : Nat → Value} {n : Nat} {vals vals' : List Value} {svs svs' : List SV} {os os' : Mem} {vs vs' : List Value} (h : zq0 w ρ n vals svs os vs) (h' : zq0 w ρ (n + os.length) vals' svs' os' vs') :
  zq0 w ρ n (vals ++ vals') (svs ++ svs') (os ++ os') (vs ++ vs') := by
 refine ⟨by simp [h.len,h'.len],fun ρ' hg => ?_,fun W ρ' hg i o v hi hv => ?_,?_,?_⟩
 ·rw [zq711,List.map_append,← zq711,← zq711,h.den ρ' hg.left,h'.den ρ' (by rw [← h.len]; exact hg.right)]
 ·by_cases hil : i < os.length
  ·rw [zc6 hil] at hi
   rw [zc6 (by rw [h.len]; exact hil)] at hv
   exact h.obj W ρ' hg.left i o v hi hv
  ·rw [zc12 (by omega)] at hi
   rw [zc12 (by rw [h.len]; omega),h.len] at hv
   exact h'.obj W ρ' (by rw [← h.len]; exact hg.right) _ o v hi hv
 ·have h1 := zq1192 (show n + os.length ≤ n + (os ++ os').length by simp) svs h.lt.1
  have h2 := zq1192 (show n + os.length + os'.length ≤ n + (os ++ os').length by simp; omega) svs' h'.lt.1
  simp only [zq1191,List.all_append,zc4] at *
  exact ⟨h1,h2⟩
 ·intro o ho
  rcases zc36.1 ho with ho | ho
  ·exact Obj.lt_mono (by simp) o (h.lt.2 o ho)
  ·exact Obj.lt_mono (by simp; omega) o (h'.lt.2 o ho)
section
variable {W : World} {ρ : Nat → Value} {m : Mem} {w : World} (hm : RelM W ρ m w)
include hm
theorem zq1236 {hk ik : K} (ty ity : TypeId) (bo : Bool) {c : SV} {a : List hk.T × List (List ik.T)} (h : zq1519 m hk ik c = some a) (n : Nat) : ∃ vs,zq0 w ρ n [den ρ c] [.row (n + 1)] [.bag ik a.2 ity (false && bo) false,.row (.nest hk a.1 n) ty false] vs := by
 have gen : ∀ (vb v : Value) (l : List hk.T) (ls : List (List ik.T)),den ρ c = v → zq1637 v = v → (∀ (W' : World) (ρ' : Nat → Value),ObjIs W' w ρ' vb (.bag ik ls ity false false)) → RowIs w v l.length (hk.sz + 1) (zq1230 ρ hk vb l 0) →
   ∃ vs,zq0 w ρ n [den ρ c] [.row (n + 1)] [.bag ik ls ity (false && bo) false,.row (.nest hk l n) ty false] vs := by
  intro vb v l ls hc hs hb hr
  refine ⟨[vb,v],rfl,fun ρ' hg => ?_,fun W' ρ' hg i o u hi hu => ?_,by simp [ltL,SV.lt],fun o ho => ?_⟩
  ·have := hg.tail.head
   simp only [denL,den,this,hs,hc]
  ·have h0 := hg.head
   have h1 := hg.tail.head
   match i with
   | 0 =>
    simp only [zc13,zc2] at hi hu
    subst hi hu
    exact ⟨hb W' ρ',rfl⟩
   | 1 =>
    simp only [zc35,zc13,zc2] at hi hu
    subst hi hu
    refine ⟨⟨by simp [C.sz],fun u hu => ?_,?_⟩,rfl⟩
    ·exact zq1240 _ _ _ _ _ u hu
    ·rw [if_neg (by simp)]
     simp only [C.den,h0,C.n,C.sz]
     rw [zq1233 ρ ρ']
     exact hr
   | i + 2 => simp at hi
  ·simp only [zc28,zc37,or_false] at ho
   rcases ho with rfl | rfl
   ·rfl
   ·simp [Obj.lt,C.lt]
 unfold zq1519 at h
 split at h
 ·rename_i j
  split at h
  ·rename_i k l jb ty' own hj
   split at h
   ·rename_i k' ls ity' own' fr' hjb
    split at h
    ·rename_i hh
     obtain ⟨h1,h2⟩ := hh
     subst h1 h2
     injection h with h
     subst h
     obtain ⟨_,A,cap,hρ,_⟩ := RelM.row hm hj
     refine gen (ρ jb) (ρ j) l ls (zq1582 hm hj) (by rw [hρ]; rfl) (fun W' ρ' => ?_) ?_
     ·obtain ⟨vs,g1,g2,g3,g4,_⟩ := (hm.obj jb _ hjb).shut
      refine ⟨vs,g1,g2,fun i x l' hi hl => ?_,(fun h => by cases h),fun h => by cases h⟩
      have e : (C.ty k' l').den ρ' = (C.ty k' l').den ρ := by simp only [C.den]; congr 1; funext a; exact zq709 ρ ρ' k' a
      rw [e]
      exact g3 i x l' hi hl
     ·exact hm.rowIs hj
    ·cases h
   ·cases h
  ·cases h
 ·injection h with h
  subst h
  exact gen (.tuple #[]) (.slice none 0 0) [] [] rfl rfl (fun W' ρ' => ⟨[],rfl,rfl,(fun i x l' h => by simp at h),(fun h => by cases h),fun h => by cases h⟩) ⟨by simp [zq1230],none,0,rfl,zc47 _,by unfold maxLen; omega,fun _ => rfl,fun _ h => by cases h⟩
 ·cases h
theorem zq698 : ∀ (l : List Seg) (cs : List SV) (x : SegsT l) (n : Nat),zq697 m l cs = some x → ∃ vs,zq0 w ρ n (denL ρ cs) (zq744 false l x n).1 (zq744 false l x n).2 vs
 | [],[],x,n,_ => ⟨[],zq0.nil w ρ n⟩
 | [],_ :: _,x,n,h => by simp [zq697] at h
 | .fl k :: r,cs,x,n,h => by
  simp only [zq697] at h
  split at h
  ·rename_i a b ha hb
   injection h with h
   subst h
   obtain ⟨h1,_⟩ := zq700 k _ a ha
   obtain ⟨vs,hv⟩ := zq698 r _ b n hb
   have h0 : zq0 w ρ n (denL ρ (cs.take k.sz)) (k.enc a) [] [] := ⟨rfl,fun ρ' _ => by rw [h1]; exact zq709 ρ ρ' k a,fun _ _ _ i o v h => by simp at h,zq746 k a _,fun o h => by cases h⟩
   refine ⟨vs,?_⟩
   have this := h0.app hv
   have e : denL ρ (cs.take k.sz) ++ denL ρ (cs.drop k.sz) = denL ρ cs := by
    rw [zq711,zq711,← List.map_append,List.take_append_drop,← zq711]
   rw [e] at this
   exact this
  ·cases h
 | .row _ _ :: _,[],x,n,h => by simp [zq697] at h
 | .row k ty :: r,c :: cs,x,n,h => by
  simp only [zq697] at h
  split at h
  ·rename_i a b ha hb
   injection h with h
   subst h
   obtain ⟨hrow,A,N,cap,hs⟩ := zq1520 hm ha
   obtain ⟨vs,hv⟩ := zq698 r _ b (n + 1) hb
   refine ⟨den ρ c :: vs,?_⟩
   have h0 : zq0 w ρ n [den ρ c] [.row n] [.row (.ty k a) ty false] [den ρ c] := by
    refine ⟨rfl,fun ρ' hg => by simp [denL,den,hg.head,hs,zq1637],fun W' ρ' hg i o v hi hv => ?_,by simp [ltL,SV.lt],fun o ho => by simp at ho; subst ho; rfl⟩
    cases i with
    | zero =>
     simp only [zc13,zc2] at hi hv
     subst hi hv
     exact ⟨zq1578 ty hrow,rfl⟩
    | succ i => simp at hi
   exact h0.app hv
  ·cases h
 | .nest _ _ _ _ _ :: _,[],x,n,h => by simp [zq697] at h
 | .nest hk ik ty ity bo :: r,c :: cs,x,n,h => by
  simp only [zq697] at h
  split at h
  ·rename_i a b ha hb
   injection h with h
   subst h
   obtain ⟨vs0,h0⟩ := zq1236 hm ty ity bo ha n
   obtain ⟨vs,hv⟩ := zq698 r _ b (n + 2) hb
   exact ⟨vs0 ++ vs,h0.app hv⟩
  ·cases h
theorem zq695 (p : PS) (v : SV) (x : p.T) (n : Nat) (h : decP m p v = some x) : ∃ vs,zq0 w ρ n [den ρ v] [(encP false p x n).1] (encP false p x n).2 vs := by
 cases p with
 | one s =>
  cases s with
  | fl k =>
   have hx : decFl k v = some x := h
   refine ⟨[],rfl,fun ρ' _ => ?_,fun _ _ _ i o v h => ?_,?_,fun o ho => ?_⟩
   ·have := (zq831 ρ ρ' hx).1
    show [den ρ' (flV k x)] = [den ρ v]
    rw [this]
   ·have h : ([] : Mem)[i]? = some o := h
    simp at h
   ·have := (zq831 ρ ρ hx).2 (n + 0)
    show (SV.lt (n + 0) (flV k x) && true) = true
    rw [this]
    rfl
   ·have ho : o ∈ ([] : Mem) := ho
    cases ho
  | row k ty =>
   have hx : rdRow m k v = some x := h
   obtain ⟨hrow,A,N,cap,hs⟩ := zq1520 hm hx
   refine ⟨[den ρ v],rfl,fun ρ' hg => by simp [encP,zq743,denL,den,hg.head,hs,zq1637],fun W' ρ' hg i o u hi hv => ?_,by simp [encP,zq743,ltL,SV.lt],fun o ho => ?_⟩
   rotate_left
   ·have ho : o ∈ [Obj.row (.ty k x) ty false] := ho
    simp only [zc38] at ho
    subst ho
    rfl
   have hi : [Obj.row (.ty k x) ty false][i]? = some o := hi
   cases i with
   | zero =>
    simp only [zc13,zc2] at hi hv
    subst hi hv
    exact ⟨zq1578 ty hrow,rfl⟩
   | succ i => simp at hi
  | nest hk ik ty ity bo =>
   have hx : zq1519 m hk ik v = some x := h
   exact zq1236 hm ty ity bo hx n
 | agg l =>
  have hx : v.parts.bind (zq697 m l) = some x := h
  obtain ⟨cs,hp,hx⟩ := zc8.1 hx
  unfold SV.parts at hp
  split at hp
  ·injection hp with hp
   subst hp
   obtain ⟨vs,hv⟩ := zq698 hm _ _ _ n hx
   refine ⟨vs,hv.len,fun ρ' hg => ?_,hv.obj,?_,hv.lt.2⟩
   ·have := hv.den ρ' hg
    simp only [encP,denL,den,this]
   ·simpa [encP,ltL,SV.lt] using hv.lt.1
  ·cases hp
 | ref l ty =>
  have hx : (blkOf m ty v).bind (zq697 m l) = some x := h
  obtain ⟨cs,hp,hx⟩ := zc8.1 hx
  unfold blkOf at hp
  split at hp
  ·rename_i j
   split at hp
   ·rename_i cs' bt own hj
    split at hp
    ·rename_i hknown
     simp only [zc4,beq_iff_eq] at hknown
     obtain ⟨rfl,hknown⟩ := hknown
     injection hp with hp
     subst hp
     obtain ⟨vs,hv⟩ := zq698 hm _ _ _ (n + 1) hx
     obtain ⟨b,arr,hb,hh,hs,hcell⟩ := hm.blk hj
     have hdl : ∀ ρ',Gives ρ' (n + 1) vs → ∀ (i : Nat) (sv : SV),(zq744 false l x (n + 1)).1[i]? = some sv → arr[i]? = some (den ρ' sv) := by
      intro ρ' hg i sv hi
      have h1 := hv.den ρ' hg
      have h2 : (denL ρ' (zq744 false l x (n + 1)).1)[i]? = some (den ρ' sv) := by rw [zq711,zc31,hi]; rfl
      rw [h1,zq711,zc31] at h2
      obtain ⟨c,hc,hce⟩ := zc7.1 h2
      rw [← hce]
      refine hcell i c hc ?_
      simpa using zc17.1 hknown c (zc5 hc)
     have hsl : arr.size = (zq744 false l x (n + 1)).1.length := by
      have h1 := hv.den (fun j => if j < n + 1 then Go.undef else vs.getD (j - (n + 1)) Go.undef) (fun i v hi => by
       show (if n + 1 + i < n + 1 then Go.undef else vs.getD (n + 1 + i - (n + 1)) Go.undef) = v
       rw [if_neg (by omega),show n + 1 + i - (n + 1) = i by omega,zc3,hi]; rfl)
      have h2 := congrArg List.length h1
      rw [zq710,zq710] at h2
      rw [hs,h2]
     have hvp : den ρ (.ptr j 0) = .pointer (some ⟨b,0,none⟩) := by simp [den,hb,zq1465,Addr.add]
     have hl1 : n + 1 + (zq744 false l x (n + 1)).2.length = n + ((zq744 false l x (n + 1)).2.length + 1) := by omega
     refine ⟨den ρ (.ptr j 0) :: vs,by simp [encP,hv.len],fun ρ' hg => ?_,fun W' ρ' hg i o u hi hu => ?_,?_,fun o ho => ?_⟩
     ·have := hg.head
      simp only [encP,denL,den,this,hb]
      simp [zq1465,Addr.add]
     ·have hi : (Obj.blk (zq744 false l x (n + 1)).1 bt false :: (zq744 false l x (n + 1)).2)[i]? = some o := hi
      cases i with
      | zero =>
       simp only [zc13,zc2] at hi hu
       subst hi hu
       exact ⟨⟨b,arr,hvp,fun h => Bool.noConfusion h,hh,hsl,fun i sv hi _ => hdl ρ' hg.tail i sv hi⟩,rfl⟩
      | succ i =>
       exact hv.obj W' ρ' hg.tail i o u (by simpa using hi) (by simpa using hu)
     ·have : (n : Nat) < n + ((zq744 false l x (n + 1)).2.length + 1) := by omega
      simp [encP,ltL,SV.lt]
     ·have ho : o ∈ (Obj.blk (zq744 false l x (n + 1)).1 bt false :: (zq744 false l x (n + 1)).2) := ho
      have hlen : n + (encP false (PS.ref l bt) x n).2.length = n + 1 + (zq744 false l x (n + 1)).2.length := by simp [encP]; omega
      rw [hlen]
      rcases zc28.1 ho with rfl | ho
      ·have := hv.lt.1
       simp only [Obj.lt,zc17,Bool.or_eq_true]
       rw [zq1191,zc17] at this
       exact fun c hc => .inr (this c hc)
      ·exact hv.lt.2 o ho
    ·cases hp
   ·cases hp
  ·cases hp
end
end Go.Ma
namespace Go.Ma
open Go Go.RowKit
section
variable {W : World} {ρ : Nat → Value} {m : Mem} {w : World} (hm : RelM W ρ m w)
include hm
theorem zq685 : ∀ (ps : List PS) (vs : List SV) (x : PsT ps) (n : Nat),decA m ps vs = some x → ∃ us,zq0 w ρ n (denL ρ vs) (encA false ps x n).1 (encA false ps x n).2 us
 | [],[],x,n,_ => ⟨[],zq0.nil w ρ n⟩
 | [],_ :: _,x,n,h => by simp [decA] at h
 | _ :: _,[],x,n,h => by simp [decA] at h
 | p :: r,v :: vs,x,n,h => by
  simp only [decA] at h
  split at h
  ·rename_i a b ha hb
   injection h with h
   subst h
   obtain ⟨us,hu⟩ := zq695 hm p v a n ha
   obtain ⟨us',hu'⟩ := zq685 r vs b (n + (encP false p a n).2.length) hb
   exact ⟨us ++ us',hu.app hu'⟩
  ·cases h
end
def zq1228 (us : List Value) (j : Nat) : Value := us.getD j Go.undef
theorem zq879 (us : List Value) : Gives (zq1228 us) 0 us := fun i v h => by simp [zq1228,zc3,h]
theorem zq0.rel {w : World} {ρ : Nat → Value} {vals : List Value} {svs : List SV} {os : Mem} {us : List Value} (h : zq0 w ρ 0 vals svs os us) : RelM w (zq1228 us) os w := by
 refine ⟨Below.refl _ _,fun j o hj => ?_,fun i j o o' _ hi _ hmu => ?_,fun j o hj => by have := h.lt.2 o (zc5 hj); simpa using this⟩
 ·obtain ⟨v,hv⟩ : ∃ v,us[j]? = some v := by
   have hl := (zc1.1 hj).1
   exact ⟨us[j]'(by rw [h.len]; exact hl),zc0 _⟩
  have := (h.obj w (zq1228 us) (zq879 us) j o v hj hv).1
  rw [show zq1228 us j = v by simp [zq1228,zc3,hv]]
  exact this
 ·obtain ⟨v,hv⟩ : ∃ v,us[i]? = some v := by
   have hl := (zc1.1 hi).1
   exact ⟨us[i]'(by rw [h.len]; exact hl),zc0 _⟩
  have := (h.obj w (zq1228 us) (zq879 us) i o v hi hv).2
  rw [this] at hmu
  cases hmu
def zq1365 (m : Mem) (k : K) (ty : TypeId) : SV → Option (List k.T)
 | .row j => (match m[j]? with | some (.row (.ty k' l) ty' true) => if h : k' = k then (if ty' == ty then some (castL h l) else none) else none | _ => none)
 | .v (.slice none 0 0) => some []
 | _ => none
def rowNo : SV → List Nat
 | .row j => [j]
 | _ => []
def zq1360 (m : Mem) (hk ik : K) (ty ity : TypeId) (bo : Bool) : SV → Option ((List hk.T × List (List ik.T)) × List Nat)
 | .row j => (match m[j]? with
  | some (.row (.nest k l jb) ty' true) => (match m[jb]? with
   | some (.bag k' ls ity' own fr) => if h : k = hk ∧ k' = ik then (if ty' == ty && ity' == ity && (own || (!bo && fr)) then some ((castL h.1 l,zq537 h.2 ls),[jb,j]) else none) else none
   | _ => none)
  | _ => none)
 | .v (.slice none 0 0) => some (([],[]),[])
 | _ => none
def zq1570 (m : Mem) : (l : List Seg) → List SV → Option (SegsT l × List Nat)
 | [],[] => some ((),[])
 | [],_ :: _ => none
 | .fl k :: r,cs => match k.dec (cs.take k.sz),zq1570 m r (cs.drop k.sz) with | some a,some (b,js) => some ((a,b),js) | _,_ => none
 | .row _ _ :: _,[] => none
 | .row k ty :: r,c :: cs => match zq1365 m k ty c,zq1570 m r cs with | some a,some (b,js) => some ((a,b),rowNo c ++ js) | _,_ => none
 | .nest _ _ _ _ _ :: _,[] => none
 | .nest hk ik ty ity bo :: r,c :: cs => match zq1360 m hk ik ty ity bo c,zq1570 m r cs with | some (a,js),some (b,js') => some ((a,b),js ++ js') | _,_ => none
def resP (m : Mem) : (p : PS) → SV → Option (p.T × List Nat)
 | .one (.fl k),v => (decFl k v).map fun a => (a,[])
 | .one (.row k ty),v => (zq1365 m k ty v).map fun a => (a,rowNo v)
 | .one (.nest hk ik ty ity bo),v => zq1360 m hk ik ty ity bo v
 | .agg l,v => v.parts.bind (zq1570 m l)
 | .ref _ _,_ => none
def resA (m : Mem) : (ps : List PS) → List SV → Option (PsT ps × List Nat)
 | [],[] => some ((),[])
 | p :: r,v :: vs => match resP m p v,resA m r vs with | some (a,js),some (b,js') => some ((a,b),js ++ js') | _,_ => none
 | _,_ => none
def tupOf : SV → Option (List SV)
 | .tup l => some l
 | _ => none
def zq716 : List Nat → Bool
 | [] => true
 | x :: r => !r.contains x && zq716 r
def resR (ps : List PS) (v : SV) (m : Mem) : Option (PsT ps) :=
 match (bif ps.length == 1 then resA m ps [v] else (tupOf v).bind (resA m ps)) with
 | some (a,js) => bif zq716 js then some a else none
 | none => none
def encR (ps : List PS) (y : PsT ps) (n : Nat) : SV := bif ps.length == 1 then ((encA true ps y n).1).headD .any else .tup (encA true ps y n).1
def SrcIs (ρ : Nat → Value) (m : Mem) (v : Value) (o : Option Obj) : Option Nat → Prop
 | none => zq1832 v = []
 | some j => v = ρ j ∧ ∃ ob,m[j]? = some ob ∧ ob.live' = true ∧ ((o.map Obj.mutB).getD false = true → ob.mutB = true)
structure ResOk (w : World) (base : Nat) (ρ : Nat → Value) (m : Mem) (n : Nat) (vals : List Value) (svs : List SV) (os : Mem) (us : List Value) (js : List Nat) : Prop where
 len : us.length = os.length
 den : ∀ ρ',Gives ρ' n us → denL ρ' svs = vals
 obj : ∀ (i : Nat) (o : Obj) (v : Value),os[i]? = some o → us[i]? = some v → (∀ W ρ',W.heap.size ≤ base → Gives ρ' n us → ObjIs W w ρ' v o) ∧ (∀ b,b ∈ zq1832 v → base ≤ b) ∧ o.lt (n + os.length) = true
 src : ∃ idx : List (Option Nat),idx.length = us.length ∧ idx.filterMap id = js ∧ ∀ (i : Nat) (v : Value) (q : Option Nat),us[i]? = some v → idx[i]? = some q → SrcIs ρ m v os[i]? q
 lt : ltL (n + os.length) svs = true
theorem zq717 : ∀ {idx : List (Option Nat)},zq716 (idx.filterMap id) = true → ∀ {i j a b : Nat},i ≠ j → idx[i]? = some (some a) → idx[j]? = some (some b) → a ≠ b
 | [],_,i,j,a,b,_,h,_ => by simp at h
 | none :: r,hd,i,j,a,b,hij,hi,hj => by
  match i,j with
  | 0,_ => simp at hi
  | _ + 1,0 => simp at hj
  | i + 1,j + 1 => exact zq717 (idx := r) (i := i) (j := j) (by simpa using hd) (by omega) (by simpa using hi) (by simpa using hj)
 | some c :: r,hd,i,j,a,b,hij,hi,hj => by
  have hd : zq716 (c :: r.filterMap id) = true := by simpa using hd
  simp only [zq716,zc4,Bool.not_eq_true',List.contains_eq_mem,decide_eq_false_iff_not] at hd
  have hin : ∀ {k x : Nat},r[k]? = some (some x) → x ∈ r.filterMap id := fun {k x} h => List.mem_filterMap.2 ⟨some x,zc5 h,rfl⟩
  match i,j with
  | 0,0 => exact absurd rfl hij
  | 0,j + 1 =>
   simp only [zc13,zc2] at hi
   subst hi
   rintro rfl
   exact hd.1 (hin (by simpa using hj))
  | i + 1,0 =>
   simp only [zc13,zc2] at hj
   subst hj
   rintro rfl
   exact hd.1 (hin (by simpa using hi))
  | i + 1,j + 1 => exact zq717 (idx := r) (i := i) (j := j) hd.2 (by omega) (by simpa using hi) (by simpa using hj)
theorem ResOk.nil (w : World) (base : Nat) (ρ : Nat → Value) (m : Mem) (n : Nat) : ResOk w base ρ m n [] [] [] [] [] :=
 ⟨rfl,fun _ _ => rfl,fun i o v h => by simp at h,⟨[],rfl,rfl,fun i v q h => by simp at h⟩,rfl⟩
theorem ResOk.app {w : World} {base : Nat} {ρ : Nat → Value} {m : Mem} {n : Nat} {vals vals' : List Value} {svs svs' : List SV} {os os' : Mem} {us us' : List Value} {js js' : List Nat}
  (h : ResOk w base ρ m n vals svs os us js) (h' : ResOk w base ρ m (n + os.length) vals' svs' os' us' js') : ResOk w base ρ m n (vals ++ vals') (svs ++ svs') (os ++ os') (us ++ us') (js ++ js') := by
 refine ⟨by simp [h.len,h'.len],fun ρ' hg => ?_,fun i o v hi hv => ?_,?_,?_⟩
 ·rw [zq711,List.map_append,← zq711,← zq711,h.den ρ' hg.left,h'.den ρ' (by rw [← h.len]; exact hg.right)]
 ·by_cases hil : i < os.length
  ·rw [zc6 hil] at hi
   rw [zc6 (by rw [h.len]; exact hil)] at hv
   obtain ⟨h1,h2,h3⟩ := h.obj i o v hi hv
   exact ⟨fun W ρ' hW hg => h1 W ρ' hW hg.left,h2,Obj.lt_mono (by simp) o h3⟩
  ·rw [zc12 (by omega)] at hi
   rw [zc12 (by rw [h.len]; omega),h.len] at hv
   obtain ⟨h1,h2,h3⟩ := h'.obj _ o v hi hv
   exact ⟨fun W ρ' hW hg => h1 W ρ' hW (by rw [← h.len]; exact hg.right),h2,Obj.lt_mono (by simp; omega) o h3⟩
 ·obtain ⟨idx,i1,i2,i3⟩ := h.src
  obtain ⟨idx',i1',i2',i3'⟩ := h'.src
  refine ⟨idx ++ idx',by simp [i1,i1'],by rw [List.filterMap_append,i2,i2'],fun i v q hv hq => ?_⟩
  by_cases hil : i < us.length
  ·rw [zc6 hil] at hv
   rw [zc6 (by rw [i1]; exact hil)] at hq
   rw [zc6 (by rw [← h.len]; exact hil)]
   exact i3 i v q hv hq
  ·rw [zc12 (by omega)] at hv
   rw [zc12 (by rw [i1]; omega),i1] at hq
   rw [zc12 (by rw [← h.len]; omega),← h.len]
   exact i3' _ v q hv hq
 ·have h1 := zq1192 (show n + os.length ≤ n + (os ++ os').length by simp) svs h.lt
  have h2 := zq1192 (show n + os.length + os'.length ≤ n + (os ++ os').length by simp; omega) svs' h'.lt
  simp only [zq1191,List.all_append,zc4] at *
  exact ⟨h1,h2⟩
theorem ResOk.apart {W w : World} {base : Nat} {ρ : Nat → Value} {m : Mem} {n : Nat} {vals : List Value} {svs : List SV} {os : Mem} {us : List Value} {js : List Nat} (h : ResOk w base ρ m n vals svs os us js) (hm : RelM W ρ m w) (hd : zq716 js = true)
  {i j : Nat} {v v' : Value} {o o' : Obj} (hij : i ≠ j) (hi : us[i]? = some v) (hj : us[j]? = some v') (ho : os[i]? = some o) (ho' : os[j]? = some o') (hmu : o.mutB = true) : ∀ b,b ∈ zq1832 v → b ∉ o'.blocks v' := by
 intro b hb hb'
 obtain ⟨idx,i1,i2,i3⟩ := h.src
 have hil : i < idx.length := by rw [i1]; exact (zc1.1 hi).1
 have hjl : j < idx.length := by rw [i1]; exact (zc1.1 hj).1
 have hq := i3 i v _ hi (zc0 hil)
 have hq' := i3 j v' _ hj (zc0 hjl)
 cases hqi : idx[i] with
 | none => rw [hqi] at hq; rw [show zq1832 v = [] from hq] at hb; cases hb
 | some p =>
  cases hqj : idx[j] with
  | none => rw [hqj] at hq'; have hb' := zq508 hb'; rw [show zq1832 v' = [] from hq'] at hb'; cases hb'
  | some p' =>
   rw [hqi] at hq
   rw [hqj] at hq'
   obtain ⟨rfl,ob,a1,a2,a3⟩ := hq
   obtain ⟨rfl,ob',a1',a2',a3'⟩ := hq'
   have hne := zq717 (idx := idx) (by rw [i2]; exact hd) hij (by rw [zc0 hil,hqi]) (by rw [zc0 hjl,hqj])
   exact hm.sep p p' ob ob' hne a1 a1' (a3 (by rw [ho]; exact hmu)) (zq1115.2 a2') b hb (by
    cases hmo : o'.mutB
    ·exact zq1521 (by simpa [Obj.blocks,hmo] using hb')
    ·rw [zq506 (a3' (by rw [ho']; exact hmo))]; exact zq508 hb')
section
variable {W : World} {ρ : Nat → Value} {m : Mem} {w : World} (hm : RelM W ρ m w)
include hm
theorem zq1367 {k : K} {ty : TypeId} {v : SV} {l : List k.T} (h : zq1365 m k ty v = some l) (n : Nat) :
  ResOk w W.heap.size ρ m n [den ρ v] [.row n] [.row (.ty k l) ty true] [den ρ v] (rowNo v) := by
 have one : ∀ {u : Value} {q : Option Nat},SrcIs ρ m u (some (.row (.ty k l) ty true)) q → q.toList = rowNo v → den ρ v = u → zq1637 u = u → (∀ W' : World,W'.heap.size ≤ W.heap.size → w.ownsRow W'.heap.size ty k.sz u l.length ((C.ty k l).den ρ)) → (∀ b,b ∈ zq1832 u → W.heap.size ≤ b) → ResOk w W.heap.size ρ m n [den ρ v] [.row n] [.row (.ty k l) ty true] [den ρ v] (rowNo v) := by
  intro u q hsrc hq hu hs hown hblk
  refine ⟨rfl,fun ρ' hg => by simp [denL,den,hg.head,hu,hs],fun i o x hi hx => ?_,⟨[q],rfl,by rw [← hq]; cases q <;> rfl,fun i x q' hx hq' => ?_⟩,by simp [ltL,SV.lt]⟩
  ·cases i with
   | succ i => simp at hi
   | zero =>
    simp only [zc13,zc2] at hi hx
    subst hi hx
    refine ⟨fun W' ρ' hW _ => ⟨(zq1801 k : 0 < k.sz),?_,?_⟩,by rw [hu]; exact hblk,rfl⟩
    ·exact zq840 ρ' k l
    ·rw [if_pos rfl,hu]
     have e : (C.ty k l).den ρ' = (C.ty k l).den ρ := by simp only [C.den]; congr 1; funext a; exact zq709 ρ ρ' k a
     rw [e]
     exact hown W' hW
  ·cases i with
   | succ i => simp at hx
   | zero =>
    simp only [zc13,zc2] at hx hq'
    subst hx hq'
    rw [hu]
    exact hsrc
 unfold zq1365 at h
 split at h
 ·rename_i j
  split at h
  ·rename_i k' l' ty' hj
   split at h
   ·rename_i hk
    subst hk
    split at h
    ·rename_i hty
     simp only [beq_iff_eq] at hty
     subst hty
     injection h with h
     subst h
     obtain ⟨g1,g2,g3⟩ := hm.obj j _ hj
     simp only [if_true] at g3
     have hv := zq1582 hm hj
     have hsl : zq1637 (ρ j) = ρ j := by
      obtain ⟨_,A,cap,hρ,_⟩ := RelM.row hm hj
      rw [hρ]; rfl
     refine one (u := ρ j) (q := some j) ⟨rfl,_,hj,rfl,fun _ => rfl⟩ rfl hv hsl (fun W' hW => ⟨g3.1,g3.2.imp id ?_⟩) (fun b hb => ?_)
     ·rintro ⟨g,cap,cur,h1,h2,h3⟩
      exact ⟨g,cap,cur,h1,by omega,h3⟩
     ·exact (zq1374 g3 ((zq507 (fun vs e => by rw [e] at hsl; simp [zq1637] at hsl)).1 hb)).1
    ·cases h
   ·cases h
  ·cases h
 ·injection h with h
  subst h
  exact one (u := .slice none 0 0) (q := none) rfl rfl rfl rfl (fun W' _ => World.ownsRow_nil w _ ty k.sz) (fun b hb => by simp [zq1832,zq1831] at hb)
 ·cases h
theorem zq1361 {hk ik : K} {ty ity : TypeId} {bo : Bool} {v : SV} {a : List hk.T × List (List ik.T)} {js : List Nat} (h : zq1360 m hk ik ty ity bo v = some (a,js)) (n : Nat) :
  ∃ us,ResOk w W.heap.size ρ m n [den ρ v] [.row (n + 1)] [.bag ik a.2 ity (true && bo) true,.row (.nest hk a.1 n) ty true] us js := by
 have gen : ∀ (vb u : Value) (l : List hk.T) (ls : List (List ik.T)) (q q' : Option Nat),SrcIs ρ m vb (some (.bag ik ls ity bo true)) q → SrcIs ρ m u (some (.row (.nest hk l n) ty true)) q' → q.toList ++ q'.toList = js → den ρ v = u → zq1637 u = u →
   (∀ (W' : World) (ρ' : Nat → Value),W'.heap.size ≤ W.heap.size → ObjIs W' w ρ' vb (.bag ik ls ity bo true)) → (∀ b,b ∈ zq1832 vb → W.heap.size ≤ b) → (∀ W' : World,W'.heap.size ≤ W.heap.size → w.ownsRow W'.heap.size ty (hk.sz + 1) u l.length (zq1230 ρ hk vb l 0)) → (∀ b,b ∈ zq1832 u → W.heap.size ≤ b) →
   ∃ us,ResOk w W.heap.size ρ m n [den ρ v] [.row (n + 1)] [.bag ik ls ity (true && bo) true,.row (.nest hk l n) ty true] us js := by
  intro vb u l ls q q' h1 h2 hq hu hs hb hbb hr hrb
  refine ⟨[vb,u],rfl,fun ρ' hg => ?_,fun i o x hi hx => ?_,⟨[q,q'],rfl,by rw [← hq]; cases q <;> cases q' <;> rfl,fun i x p hx hp => ?_⟩,by simp [ltL,SV.lt]⟩
  ·have := hg.tail.head
   simp only [denL,den,this,hs,hu]
  ·match i with
   | 0 =>
    simp only [zc13,zc2] at hi hx
    subst hi hx
    exact ⟨fun W' ρ' hW _ => by rw [Bool.true_and]; exact hb W' ρ' hW,hbb,rfl⟩
   | 1 =>
    simp only [zc35,zc13,zc2] at hi hx
    subst hi hx
    refine ⟨fun W' ρ' hW hg => ⟨by simp [C.sz],fun u hu => zq1240 _ _ _ _ _ u hu,?_⟩,hrb,by simp [Obj.lt,C.lt]⟩
    rw [if_pos rfl]
    simp only [C.den,hg.head,C.n,C.sz]
    rw [zq1233 ρ ρ']
    exact hr W' hW
   | i + 2 => simp at hi
  ·match i with
   | 0 =>
    simp only [zc13,zc2] at hx hp
    subst hx hp
    rw [Bool.true_and]
    exact h1
   | 1 =>
    simp only [zc35,zc13,zc2] at hx hp
    subst hx hp
    exact h2
   | i + 2 => simp at hx
 unfold zq1360 at h
 split at h
 ·rename_i j
  split at h
  ·rename_i k l jb ty' hj
   split at h
   ·rename_i k' ls ity' own fr hjb
    split at h
    ·rename_i hh
     obtain ⟨h1,h2⟩ := hh
     subst h1 h2
     split at h
     ·rename_i hc
      simp only [zc4,beq_iff_eq,Bool.or_eq_true,Bool.not_eq_true'] at hc
      obtain ⟨⟨rfl,rfl⟩,hof⟩ := hc
      simp only [zc2,zc11] at h
      obtain ⟨rfl,rfl⟩ := h
      obtain ⟨g1,g2,g3⟩ := hm.obj j _ hj
      simp only [if_true] at g3
      have hv := zq1582 hm hj
      have hsl : zq1637 (ρ j) = ρ j := by
       obtain ⟨_,A,cap,hρ,_⟩ := RelM.row hm hj
       rw [hρ]; rfl
      have hbo : bo = true → own = true := fun hb => by rcases hof with h | ⟨h,_⟩; exact h; rw [hb] at h; cases h
      obtain ⟨vs,b1,b2,b3,b4,b5⟩ := hm.obj jb _ hjb
      obtain ⟨vs',c1,c2,c3,_,c5⟩ := (hm.obj jb _ hjb).shut
      have hfresh : ∀ x ∈ vs,∀ b,zq1831 x = some b → W.heap.size ≤ b := by
       rw [b1] at c1
       injection c1 with c1
       have : vs = vs' := by simpa using c1
       subst this
       exact c5 (by rcases hof with h | ⟨_,h⟩ <;> simp [h])
      have hvs : vs' = vs := by
       rw [b1] at c1
       injection c1 with c1
       exact (by simpa using c1 : vs = vs').symm
      subst hvs
      refine gen (ρ jb) (ρ j) l ls (some jb) (some j) ⟨rfl,_,hjb,rfl,fun h => hbo h⟩ ⟨rfl,_,hj,rfl,fun _ => rfl⟩ rfl hv hsl (fun W' ρ' hW => ?_) (fun b hb => ?_) (fun W' hW => ⟨g3.1,g3.2.imp id ?_⟩) (fun b hb => ?_)
      ·have e : ∀ l : List k'.T,(C.ty k' l).den ρ' = (C.ty k' l).den ρ := fun l => by simp only [C.den]; congr 1; funext a; exact zq709 ρ ρ' k' a
       refine ⟨vs',b1,b2,fun i x l' hi hl => ?_,fun hb => b4 (hbo hb),fun _ x hx b hb => by have := hfresh x hx b hb; omega⟩
       rw [e]
       cases hb : bo
       ·have := c3 i x l' hi hl
        simpa using this
       ·have := b3 i x l' hi hl
        rw [hbo hb] at this
        simp only [if_true] at this ⊢
        refine ⟨this.1,this.2.imp id ?_⟩
        rintro ⟨g,cap,cur,h1,h2,h3⟩
        exact ⟨g,cap,cur,h1,by omega,h3⟩
      ·rw [b1] at hb
       simp only [zq1832,List.mem_filterMap] at hb
       obtain ⟨x,hx,hxb⟩ := hb
       exact hfresh x (by simpa using hx) b hxb
      ·rintro ⟨g,cap,cur,h1,h2,h3⟩
       exact ⟨g,cap,cur,h1,by omega,h3⟩
      ·exact (zq1374 g3 ((zq507 (fun vs e => by rw [e] at hsl; simp [zq1637] at hsl)).1 hb)).1
     ·cases h
    ·cases h
   ·cases h
  ·cases h
 ·simp only [zc2,zc11] at h
  obtain ⟨rfl,rfl⟩ := h
  exact gen (.tuple #[]) (.slice none 0 0) [] [] none none (by simp [SrcIs,zq1832]) (by simp [SrcIs,zq1832,zq1831]) rfl rfl rfl (fun W' ρ' _ => ⟨[],rfl,rfl,(fun i x l' h => by simp at h),(fun _ i j x y b _ h => by simp at h),fun _ x h => by cases h⟩) (fun b hb => by simp [zq1832] at hb) (fun W' _ => World.ownsRow_nil w _ ty _) (fun b hb => by simp [zq1832,zq1831] at hb)
 ·cases h
theorem fl_res {k : K} {vals : List Value} {a : k.T} (h : ∀ ρ',denL ρ' (k.enc a) = vals) (n : Nat) : ResOk w W.heap.size ρ m n vals (k.enc a) [] [] [] :=
 have _hs := hm
 ⟨rfl,fun ρ' _ => h ρ',fun i o v h => by simp at h,⟨[],rfl,rfl,fun i v q h => by simp at h⟩,zq746 k a _⟩
theorem zq1571 : ∀ (l : List Seg) (cs : List SV) (x : SegsT l) (js : List Nat) (n : Nat),zq1570 m l cs = some (x,js) → ∃ us,ResOk w W.heap.size ρ m n (denL ρ cs) (zq744 true l x n).1 (zq744 true l x n).2 us js
 | [],[],x,js,n,h => by simp only [zq1570,zc2,zc11] at h; obtain ⟨_,rfl⟩ := h; exact ⟨[],ResOk.nil w _ ρ _ n⟩
 | [],_ :: _,x,js,n,h => by simp [zq1570] at h
 | .fl k :: r,cs,x,js,n,h => by
  simp only [zq1570] at h
  split at h
  ·rename_i a b js' ha hb
   simp only [zc2,zc11] at h
   obtain ⟨rfl,rfl⟩ := h
   obtain ⟨h1,_⟩ := zq700 k _ a ha
   obtain ⟨us,hu⟩ := zq1571 r _ b _ n hb
   have h0 : ResOk w W.heap.size ρ m n (denL ρ (cs.take k.sz)) (k.enc a) [] [] [] := fl_res hm (fun ρ' => by rw [h1]; exact zq709 ρ ρ' k a) n
   have this := h0.app hu
   have e : denL ρ (cs.take k.sz) ++ denL ρ (cs.drop k.sz) = denL ρ cs := by
    rw [zq711,zq711,← List.map_append,List.take_append_drop,← zq711]
   rw [e] at this
   exact ⟨us,this⟩
  ·cases h
 | .row _ _ :: _,[],x,js,n,h => by simp [zq1570] at h
 | .row k ty :: r,c :: cs,x,js,n,h => by
  simp only [zq1570] at h
  split at h
  ·rename_i a b js' ha hb
   simp only [zc2,zc11] at h
   obtain ⟨rfl,rfl⟩ := h
   have h0 := zq1367 hm ha n
   obtain ⟨us,hu⟩ := zq1571 r _ b _ (n + 1) hb
   exact ⟨_,h0.app hu⟩
  ·cases h
 | .nest _ _ _ _ _ :: _,[],x,js,n,h => by simp [zq1570] at h
 | .nest hk ik ty ity bo :: r,c :: cs,x,js,n,h => by
  simp only [zq1570] at h
  split at h
  ·rename_i a js1 b js2 ha hb
   simp only [zc2,zc11] at h
   obtain ⟨rfl,rfl⟩ := h
   obtain ⟨us0,h0⟩ := zq1361 hm ha n
   obtain ⟨us,hu⟩ := zq1571 r _ b _ (n + 2) hb
   exact ⟨_,h0.app hu⟩
  ·cases h
theorem zq1567 (p : PS) (v : SV) (x : p.T) (js : List Nat) (n : Nat) (h : resP m p v = some (x,js)) : ∃ us,ResOk w W.heap.size ρ m n [den ρ v] [(encP true p x n).1] (encP true p x n).2 us js := by
 cases p with
 | one s =>
  cases s with
  | fl k =>
   have hx : (decFl k v).map (fun a => (a,([] : List Nat))) = some (x,js) := h
   obtain ⟨a,ha,hx⟩ := zc7.1 hx
   cases hx
   refine ⟨[],rfl,fun ρ' _ => ?_,fun i o v h => ?_,⟨[],rfl,rfl,fun i v q h => by simp at h⟩,?_⟩
   ·have := (zq831 ρ ρ' ha).1
    show [den ρ' (flV k x)] = [den ρ v]
    rw [this]
   ·have h : ([] : Mem)[i]? = some o := h
    simp at h
   ·have := (zq831 ρ ρ ha).2 (n + 0)
    show (SV.lt (n + 0) (flV k x) && true) = true
    rw [this]
    rfl
  | row k ty =>
   have hx : (zq1365 m k ty v).map (fun a => (a,rowNo v)) = some (x,js) := h
   obtain ⟨a,ha,hx⟩ := zc7.1 hx
   cases hx
   exact ⟨_,zq1367 hm ha n⟩
  | nest hk ik ty ity bo =>
   have hx : zq1360 m hk ik ty ity bo v = some (x,js) := h
   exact zq1361 hm hx n
 | agg l =>
  have hx : v.parts.bind (zq1570 m l) = some (x,js) := h
  obtain ⟨cs,hp,hx⟩ := zc8.1 hx
  unfold SV.parts at hp
  split at hp
  ·injection hp with hp
   subst hp
   obtain ⟨us,hv⟩ := zq1571 hm _ _ _ _ n hx
   refine ⟨us,hv.len,fun ρ' hg => ?_,hv.obj,hv.src,?_⟩
   ·have := hv.den ρ' hg
    simp only [encP,denL,den,this]
   ·simpa [encP,ltL,SV.lt] using hv.lt
  ·cases hp
 | ref l ty =>
  have hx : (none : Option (SegsT l × List Nat)) = some (x,js) := h
  cases hx
theorem zq1563 : ∀ (ps : List PS) (vs : List SV) (x : PsT ps) (js : List Nat) (n : Nat),resA m ps vs = some (x,js) → ∃ us,ResOk w W.heap.size ρ m n (denL ρ vs) (encA true ps x n).1 (encA true ps x n).2 us js
 | [],[],x,js,n,h => by simp only [resA,zc2,zc11] at h; obtain ⟨_,rfl⟩ := h; exact ⟨[],ResOk.nil w _ ρ _ n⟩
 | [],_ :: _,x,js,n,h => by simp [resA] at h
 | _ :: _,[],x,js,n,h => by simp [resA] at h
 | p :: r,v :: vs,x,js,n,h => by
  simp only [resA] at h
  split at h
  ·rename_i a js1 b js2 ha hb
   simp only [zc2,zc11] at h
   obtain ⟨rfl,rfl⟩ := h
   obtain ⟨us,hu⟩ := zq1567 hm p v a js1 n ha
   obtain ⟨us',hu'⟩ := zq1563 r vs b js2 (n + (encP true p a n).2.length) hb
   exact ⟨us ++ us',hu.app hu'⟩
  ·cases h
end
theorem RelM.pushL {W : World} {ρ : Nat → Value} {m : Mem} {w w' : World} (h : RelM W ρ m w) (hb : Below w.heap.size w w') {os : Mem} {us : List Value} (hlen : us.length = os.length)
  (ho : ∀ (i : Nat) (o : Obj) (v : Value),os[i]? = some o → us[i]? = some v → (∀ ρ',Gives ρ' m.length us → ObjIs W w' ρ' v o) ∧ (∀ b,b ∈ zq1832 v → w.heap.size ≤ b) ∧ o.lt (m.length + os.length) = true)
  (hd : ∀ (i j : Nat) (v v' : Value) (o o' : Obj),i ≠ j → us[i]? = some v → us[j]? = some v' → os[i]? = some o → os[j]? = some o' → o.mutB = true → ∀ b,b ∈ zq1832 v → b ∉ o'.blocks v') :
  ∃ ρ',Agree m.length ρ ρ' ∧ Gives ρ' m.length us ∧ RelM W ρ' (m ++ os) w' := by
 obtain ⟨ρ',hρ'⟩ : ∃ ρ' : Nat → Value,ρ' = fun j => if j < m.length then ρ j else us.getD (j - m.length) Go.undef := ⟨_,rfl⟩
 have ha : Agree m.length ρ ρ' := fun j hj => by rw [hρ']; simp [hj]
 have hg : Gives ρ' m.length us := fun i v hi => by
  rw [hρ']
  show (if m.length + i < m.length then _ else us.getD (m.length + i - m.length) Go.undef) = v
  rw [if_neg (by omega),show m.length + i - m.length = i by omega,zc3,hi]
  rfl
 have hk := h.later hb
 have key : ∀ {k : Nat} {o : Obj},(m ++ os)[k]? = some o → (k < m.length ∧ m[k]? = some o) ∨ (∃ i v,k = m.length + i ∧ os[i]? = some o ∧ us[i]? = some v ∧ ρ' k = v) := by
  intro k o hk
  by_cases hlt : k < m.length
  ·rw [zc6 hlt] at hk; exact .inl ⟨hlt,hk⟩
  ·rw [zc12 (by omega)] at hk
   have hl := (zc1.1 hk).1
   have hv : us[k - m.length]? = some (us[k - m.length]'(by rw [hlen]; exact hl)) := zc0 _
   have := hg _ _ hv
   rw [show m.length + (k - m.length) = k by omega] at this
   exact .inr ⟨k - m.length,_,by omega,hk,hv,this⟩
 refine ⟨ρ',ha,hg,hk.below,fun j o hj => ?_,fun i j o1 o2 hij hi hj hmu hdd b hbi hbj => ?_,fun j o hj => ?_⟩
 ·rcases key hj with ⟨hlt,hj⟩ | ⟨i,v,rfl,hi,hv,hr⟩
  ·rw [ha j hlt]
   exact (hk.obj j o hj).agree ha (h.lt j o hj)
  ·rw [hr]
   exact (ho i o v hi hv).1 ρ' hg
 ·rcases key hi with ⟨hil,hi⟩ | ⟨i',v,rfl,hi,hv,hr⟩ <;> rcases key hj with ⟨hjl,hj⟩ | ⟨j',v',rfl,hj,hv',hr'⟩
  ·rw [ha i hil] at hbi
   rw [ha j hjl] at hbj
   exact h.sep i j o1 o2 hij hi hj hmu hdd b hbi hbj
  ·rw [ha i hil] at hbi
   rw [hr'] at hbj
   have h1 := (ho j' o2 v' hj hv').2.1 b (zq508 hbj)
   have h2 : b < w.heap.size := ObjIs.lt_heap (by rw [zq506 hmu]; exact hbi) (zq1227 hmu) (h.obj i o1 hi)
   omega
  ·rw [ha j hjl] at hbj
   rw [hr] at hbi
   have h1 := (ho i' o1 v hi hv).2.1 b hbi
   have h2 : b < w.heap.size := ObjIs.lt_heap hbj hdd (h.obj j o2 hj)
   omega
  ·rw [hr] at hbi
   rw [hr'] at hbj
   exact hd i' j' v v' o1 o2 (by rintro rfl; exact hij rfl) hv hv' hi hj hmu b hbi hbj
 ·rcases key hj with ⟨hlt,hj⟩ | ⟨i,v,rfl,hi,hv,hr⟩
  ·exact Obj.lt_mono (by simp) o (h.lt j o hj)
  ·rw [zc24]; exact (ho i o v hi hv).2.2
def flatP : PS → Bool
 | .one (.fl _) => true
 | _ => false
def conTr (ps rs : List PS) (t : PsT ps → Option (PsT rs)) : Tr := fun _ args m k =>
 (decA m ps args).bind fun x => (t x).bind fun y => k (encR rs y m.length) (m ++ (encA true rs y m.length).2)
def con (ps rs : List PS) (t : PsT ps → Option (PsT rs)) : Con := { tr := conTr ps rs t,q := rs.all flatP,law := true }
theorem zq842 : ∀ (rs : List PS) (y : PsT rs) (n : Nat),rs.all flatP = true → (encA true rs y n).2 = []
 | [],_,_,_ => rfl
 | p :: r,y,n,h => by
  simp only [List.all_cons,zc4] at h
  have h0 : (encP true p y.1 n).2 = [] := by
   cases p with
   | one s => cases s with
    | fl k => rfl
    | row k ty => simp [flatP] at h
    | nest _ _ _ _ _ => simp [flatP] at h
   | agg l => simp [flatP] at h
   | ref l ty => simp [flatP] at h
  simp only [encA,h0,List.nil_append,zc32]
  exact zq842 r y.2 _ h.2
theorem zq830 (k : K) (a : k.T) (n : Nat) : (flV k a).lt n = true := by cases k <;> rfl
theorem zq839 : ∀ (rs : List PS) (y : PsT rs) (n k : Nat),rs.all flatP = true → ltL k (encA true rs y n).1 = true
 | [],_,_,_,_ => rfl
 | p :: r,y,n,k,h => by
  simp only [List.all_cons,zc4] at h
  have h0 : (encP true p y.1 n).1.lt k = true := by
   cases p with
   | one s => cases s with
    | fl k' => exact zq830 k' y.1 k
    | row k ty => simp [flatP] at h
    | nest _ _ _ _ _ => simp [flatP] at h
   | agg l => simp [flatP] at h
   | ref l ty => simp [flatP] at h
  simp only [encA,ltL,h0,Bool.true_and]
  exact zq839 r y.2 _ k h.2
theorem zq742 (rs : List PS) (y : PsT rs) (n : Nat) (h : rs.all flatP = true) : (encR rs y n).lt 0 = true := by
 have h0 := zq839 rs y n 0 h
 unfold encR
 cases rs.length == 1
 ·simpa only [cond_false,SV.lt] using h0
 ·simp only [cond_true]
  cases hx : (encA true rs y n).1 with
  | nil => rfl
  | cons c r =>
   rw [hx] at h0
   simp only [ltL,zc4] at h0
   exact h0.1
theorem RelM.back {W : World} {ρ ρ' : Nat → Value} {m : Mem} {w : World} (h : RelM W ρ' m w) (ha : Agree m.length ρ ρ') (hlt : ∀ (j : Nat) (o : Obj),m[j]? = some o → o.lt m.length = true) : RelM W ρ m w := by
 have hl : ∀ {j : Nat} {o : Obj},m[j]? = some o → j < m.length := fun hj => (zc1.1 hj).1
 refine ⟨h.below,fun j o hj => ?_,fun i j o o' hij hi hj hmu hd b hb hb' => ?_,hlt⟩
 ·have := h.obj j o hj
  rw [ha j (hl hj)] at this
  have hag : Agree m.length ρ' ρ := fun i hi => (ha i hi).symm
  exact this.agree hag (hlt j o hj)
 ·rw [← ha i (hl hi)] at hb
  rw [← ha j (hl hj)] at hb'
  exact h.sep i j o o' hij hi hj hmu hd b hb hb'
theorem zq741 {rs : List PS} {y : PsT rs} {n : Nat} {ρ' : Nat → Value} {vals : List Value} {v : Value} (hlen : (encA true rs y n).1.length = rs.length) (h : denL ρ' (encA true rs y n).1 = vals) (hv : v = if rs.length = 1 then vals.headD Go.undef else .tuple vals.toArray) : den ρ' (encR rs y n) = v := by
 unfold encR
 rw [hv]
 by_cases h1 : rs.length = 1
 ·rw [if_pos h1,show (rs.length == 1) = true by simpa using h1]
  simp only [cond_true]
  rw [h1] at hlen
  match hx : (encA true rs y n).1,hlen with
  | [c],_ =>
   rw [hx] at h
   rw [← h]
   rfl
 ·rw [if_neg h1,show (rs.length == 1) = false by simpa using h1]
  simp only [cond_false,den,h]
theorem zq735 (own : Bool) : ∀ (ps : List PS) (x : PsT ps) (n : Nat),(encA own ps x n).1.length = ps.length
 | [],_,_ => rfl
 | p :: r,x,n => by simp [encA,zq735 own r]
theorem zq1568 {W : World} {ρ : Nat → Value} {m : Mem} {w : World} (hm : RelM W ρ m w) {rs : List PS} {v : SV} {y : PsT rs} (h : resR rs v m = some y) (n : Nat) :
  ∃ vals us js,ResOk w W.heap.size ρ m n vals (encA true rs y n).1 (encA true rs y n).2 us js ∧ zq716 js = true ∧ den ρ v = (if rs.length = 1 then vals.headD Go.undef else .tuple vals.toArray) := by
 unfold resR at h
 by_cases h1 : rs.length = 1
 ·rw [show (rs.length == 1) = true by simpa using h1] at h
  simp only [cond_true] at h
  split at h
  ·rename_i a js ha
   cases hd : zq716 js
   ·rw [hd] at h; cases h
   ·rw [hd] at h
    injection h with h
    subst h
    obtain ⟨us,hu⟩ := zq1563 hm rs [v] a js n ha
    exact ⟨_,us,js,hu,hd,by rw [if_pos h1]; rfl⟩
  ·cases h
 ·rw [show (rs.length == 1) = false by simpa using h1] at h
  simp only [cond_false] at h
  split at h
  ·rename_i a js ha
   obtain ⟨l,hl,ha⟩ := zc8.1 ha
   cases hd : zq716 js
   ·rw [hd] at h; cases h
   ·rw [hd] at h
    injection h with h
    subst h
    unfold tupOf at hl
    split at hl
    ·injection hl with hl
     subst hl
     obtain ⟨us,hu⟩ := zq1563 hm rs _ a js n ha
     exact ⟨_,us,js,hu,hd,by rw [if_neg h1]; rfl⟩
    ·cases hl
  ·cases h
theorem zq664 {P : Program} {f : FuncId} (ps rs : List PS) (t : PsT ps → Option (PsT rs))
  (hc : ∀ (x : PsT ps) (y : PsT rs),t x = some y → ∀ (ρ : Nat → Value) (us vals : List Value) (w : World),Glob P w → zq0 w ρ 0 vals (encA false ps x 0).1 (encA false ps x 0).2 us →
   Calls P f vals.toArray w fun e w' => ∃ ρc r m',e = .returned (den ρc r) ∧ RelM w ρc m' w' ∧ resR rs r m' = some y) : TrOk P f (con ps rs t) := by
 -- a call,from the caller's world on
 have main : ∀ {W : World},Glob P W → ∀ {args : List SV} {m : Mem} {x : PsT ps} {y : PsT rs},decA m ps args = some x → t x = some y → ∀ ρ w,RelM W ρ m w →
   Calls P f (denL ρ args).toArray w fun e w' => ∃ ρ',e = .returned (den ρ' (encR rs y m.length)) ∧ RelM W ρ' (m ++ (encA true rs y m.length).2) w' ∧ Agree m.length ρ ρ' ∧ (encR rs y m.length).lt (m ++ (encA true rs y m.length).2).length = true := by
  intro W hG args m x y hx hy ρ w hm
  obtain ⟨us,hu⟩ := zq685 hm ps args x 0 hx
  refine (hc x y hy ρ us _ w (hG.mono hm.below) hu).mono ?_
  rintro e w' ⟨ρc,r,m',rfl,hm',hres⟩
  obtain ⟨vals,vs,js,hr,hd,hv⟩ := zq1568 hm' hres m.length
  obtain ⟨ρ',hag,hg,hpush⟩ := hm.pushL hm'.below hr.len (fun i o v hi hv => by
    obtain ⟨h1,h2,h3⟩ := hr.obj i o v hi hv
    exact ⟨fun ρ' hg => h1 W ρ' hm.below.size hg,h2,h3⟩) (fun i j v v' o o' hij hi hj ho ho' hmu => hr.apart hm' hd hij hi hj ho ho' hmu)
  refine ⟨ρ',?_,hpush,hag,?_⟩
  ·rw [zq741 (zq735 true rs y _) (hr.den ρ' hg) hv]
  ·have hlt := hr.lt
   rw [zc24]
   unfold encR
   by_cases h1 : rs.length = 1
   ·rw [show (rs.length == 1) = true by simpa using h1]
    simp only [cond_true]
    have hlen := zq735 true rs y m.length
    rw [h1] at hlen
    match hx : (encA true rs y m.length).1,hlen with
    | [c],_ =>
     rw [hx] at hlt
     simpa [ltL] using hlt
   ·rw [show (rs.length == 1) = false by simpa using h1]
    simpa only [cond_false,SV.lt] using hlt
 refine ⟨fun W hG X args m k x hk hany => ⟨fun hlt ρ w hm => ?_⟩,fun hq W hG X args m k x hk hany => ⟨fun hlt => ?_⟩,fun _ X args m k x hk => ?_⟩
 ·simp only [con,conTr] at hk
  obtain ⟨a,ha,hk⟩ := zc8.1 hk
  obtain ⟨y,hy,hk⟩ := zc8.1 hk
  refine (main hG ha hy ρ w hm).mono ?_
  rintro e w' ⟨ρ',rfl,hm',hag,hl'⟩
  exact ⟨ρ',_,_,rfl,hm',hag,by simp,fun _ => hl',hk⟩
 ·simp only [con,conTr] at hk hq
  obtain ⟨a,ha,hk⟩ := zc8.1 hk
  obtain ⟨y,hy,hk⟩ := zc8.1 hk
  have hos := zq842 rs y m.length hq
  have hcl : (encR rs y m.length).lt 0 = true := zq742 rs y _ hq
  refine ⟨encR rs y m.length,lt_mono (Nat.zero_le _) _ hcl,fun ρ w hm => (main hG ha hy ρ w hm).mono ?_,hk⟩
  rintro e w' ⟨ρ',rfl,hm',hag,hl'⟩
  rw [hos,List.append_nil] at hm'
  refine ⟨?_,?_⟩
  ·rw [den_agree (n := 0) (fun i hi => absurd hi (by omega)) _ hcl]
  ·exact hm'.back hag hm.lt
 ·simp only [con,conTr] at hk ⊢
  obtain ⟨a,ha,hk⟩ := zc8.1 hk
  obtain ⟨y,hy,hk⟩ := zc8.1 hk
  exact ⟨_,_,by rw [ha,zc49,hy,zc49],hk,fun _ => ⟨_,rfl⟩⟩
theorem zq665 {P : Program} {E : Env} (hE : EnvOk P E) {f : FuncId} {fn : Func} (hf : P.funcs[f]? = some fn) (hl : ∀ c,fn.body = some c → zq8 P E c) (ps rs : List PS) (t : PsT ps → Option (PsT rs))
  (h : ∀ x,ixF E fn (encA false ps x 0).1 (encA false ps x 0).2 (resR rs) = t x) : TrOk P f (con ps rs t) := by
 refine zq664 ps rs t fun x y hy ρ us vals w hG hu => ?_
 have hrel := hu.rel
 have hden := hu.den _ (zq879 us)
 have hcall := zq536 (m := (encA false ps x 0).2) (W := w) ⟨hE,hG⟩ hf hl (by have := hu.lt.1; simpa using this) ((h x).trans hy) hrel
 rw [hden] at hcall
 refine hcall.mono ?_
 rintro e w' ⟨ρc,r,m',rfl,hm',_,_,_,hres⟩
 exact ⟨ρc,r,m',rfl,hm',hres⟩
theorem RelM.shut {W : World} {ρ : Nat → Value} {m : Mem} {w : World} (h : RelM W ρ m w) : RelM w ρ (m.map Obj.loose) w := by
 have hget : ∀ {j : Nat} {o : Obj},(m.map Obj.loose)[j]? = some o → ∃ o',m[j]? = some o' ∧ o = o'.loose := fun {j o} hj => by
  rw [zc31] at hj
  obtain ⟨o',h1,h2⟩ := zc7.1 hj
  exact ⟨o',h1,h2.symm⟩
 refine ⟨Below.refl _ _,fun j o hj => ?_,fun i j o o' _ hi _ hmu => ?_,fun j o hj => ?_⟩
 ·obtain ⟨o',hj',rfl⟩ := hget hj
  cases o' with
  | dead g => exact (h.obj j _ hj').still rfl
  | ghost => trivial
  | blk cs ty own =>
   obtain ⟨b,arr,h1,_,h3⟩ := h.obj j _ hj'
   exact ⟨b,arr,h1,(fun h => by cases h),h3⟩
  | row c ty own =>
   obtain ⟨hs0,h0,_⟩ := h.obj j _ hj'
   refine ⟨hs0,h0,?_⟩
   rw [if_neg (by simp)]
   exact h.rowIs hj'
  | bag k ls ty own fr =>
   obtain ⟨vs,h1,h2,h3,_,_⟩ := (h.obj j _ hj').loose
   exact ⟨vs,h1,h2,h3,(fun h => by cases h),fun h => by cases h⟩
 ·obtain ⟨o',_,rfl⟩ := hget hi
  cases o' <;> simp [Obj.loose,Obj.shut,Obj.mutB] at hmu
 ·obtain ⟨o',hj',rfl⟩ := hget hj
  have := h.lt j o' hj'
  rw [List.length_map]
  cases o' <;> exact this
def flCon (E : Env) (fn : Func) (rs : List PS) : Con :=
 {tr := fun _ args m k => (ixF E fn args (m.map Obj.loose) (resR rs)).bind fun y => k (encR rs y m.length) m,q := true,law := true }
theorem zq829 {P : Program} {E : Env} (hE : EnvOk P E) {f : FuncId} {fn : Func} (hf : P.funcs[f]? = some fn) (hl : ∀ c,fn.body = some c → zq8 P E c) (rs : List PS) (hrs : rs.all flatP = true) : TrOk P f (flCon E fn rs) := by
 have main : ∀ {W : World},Glob P W → ∀ {args : List SV} {m : Mem} {y : PsT rs},ixF E fn args (m.map Obj.loose) (resR rs) = some y → ltL m.length args = true → ∀ ρ w,RelM W ρ m w →
   Calls P f (denL ρ args).toArray w fun e w' => e = .returned (den ρ (encR rs y m.length)) ∧ RelM W ρ m w' := by
  intro W hG args m y hy hlt ρ w hm
  refine (zq536 (W := w) ⟨hE,hG.mono hm.below⟩ hf hl (by rw [List.length_map]; exact hlt) hy hm.shut).mono ?_
  rintro e w' ⟨ρ',r,m',rfl,hm',_,_,_,hr⟩
  obtain ⟨vals,us,js,hr,hd,hv⟩ := zq1568 hm' hr m.length
  have hus : us = [] := by
   have := hr.len
   rw [zq842 rs y m.length hrs] at this
   exact List.eq_nil_of_length_eq_zero this
  subst hus
  have hden := zq741 (zq735 true rs y m.length) (hr.den ρ (fun i v h => by simp at h)) hv
  exact ⟨by rw [hden],hm.later hm'.below⟩
 have hlt : ∀ (y : PsT rs) (n k : Nat),(encR rs y n).lt k = true := fun y n k => lt_mono (Nat.zero_le _) _ (zq742 rs y n hrs)
 refine ⟨fun W hG X args m k x hk _ => ⟨fun hl0 ρ w hm => ?_⟩,fun _ W hG X args m k x hk _ => ⟨fun hl0 => ?_⟩,fun _ X args m k x hk => ?_⟩
 ·obtain ⟨y,hy,hk⟩ := zc8.1 hk
  refine (main hG hy hl0 ρ w hm).mono ?_
  rintro e w' ⟨rfl,hm'⟩
  exact ⟨ρ,encR rs y m.length,m,rfl,hm',Agree.refl _ _,zc47 _,fun _ => hlt y _ _,hk⟩
 ·obtain ⟨y,hy,hk⟩ := zc8.1 hk
  exact ⟨encR rs y m.length,hlt y _ _,fun ρ w hm => main hG hy hl0 ρ w hm,hk⟩
 ·obtain ⟨y,hy,hk⟩ := zc8.1 hk
  refine ⟨encR rs y m.length,m,?_,hk,fun _ => ⟨[],by simp⟩⟩
  show (ixF E fn args (m.map Obj.loose) (resR rs)).bind _ = _
  rw [hy]
  rfl
end Go.Ma
namespace Go.Ma
open Go Go.RowKit
def i64In (x : Int) : Prop := -9223372036854775808 ≤ x ∧ x < 9223372036854775808
def u64In (x : Int) : Prop := 0 ≤ x ∧ x < 18446744073709551616
def u8In (x : Int) : Prop := 0 ≤ x ∧ x < 256
def strIn (s : ByteArray) : Prop := s.size ≤ maxLen
def Ad.In (a : Ad) : Prop := u64In a.hi ∧ u64In a.lo
def Pf.In (p : Pf) : Prop := p.ad.In ∧ i64In p.bits
def Ls.In (x : Ls) : Prop := x.ad.In ∧ strIn x.who ∧ i64In x.upto
def Oq.In (o : Oq) : Prop := i64In o.kind ∧ o.pf.In ∧ o.ad.In ∧ strIn o.who ∧ i64In o.of_ ∧ i64In o.n
def En.In (e : En) : Prop := i64In e.num ∧ i64In e.epoch ∧ e.op.In
def Ev.In (e : Ev) : Prop := i64In e.kind ∧ i64In e.who ∧ i64In e.n ∧ e.op.In
def K.In : (k : K) → k.T → Prop
 | .int => i64In | .u64 => u64In | .u8 => u8In | .bool => fun _ => True | .str => strIn
 | .addr => Ad.In | .pfx => Pf.In | .lease => Ls.In | .op => Oq.In | .entry => En.In | .event => Ev.In
def rowIn (k : K) (l : List k.T) : Prop := l.length ≤ maxLen ∧ ∀ a ∈ l,k.In a
def Seg.In : (s : Seg) → s.T → Prop
 | .fl k,x => k.In x
 | .row k _,l => rowIn k l
 | .nest hk ik _ _ _,x => rowIn hk x.1 ∧ x.2.length = x.1.length ∧ ∀ l ∈ x.2,rowIn ik l
def zq326 : (l : List Seg) → SegsT l → Prop
 | [],_ => True
 | s :: r,x => s.In x.1 ∧ zq326 r x.2
def PS.In : (p : PS) → p.T → Prop
 | .one s,x => s.In x
 | .agg l,x => zq326 l x
 | .ref l _,x => zq326 l x
def PsIn : (ps : List PS) → PsT ps → Prop
 | [],_ => True
 | p :: r,x => p.In x.1 ∧ PsIn r x.2
def K.Le (M : Nat) : (k : K) → k.T → Prop
 | .str,(s : ByteArray) => s.size ≤ M
 | _,_ => True
def Seg.Le (M : Nat) : (s : Seg) → s.T → Prop
 | .fl k,x => k.Le M x
 | .row _ _,l => l.length ≤ M
 | .nest _ _ _ _ _,x => x.1.length ≤ M
def zq327 (M : Nat) : (l : List Seg) → SegsT l → Prop
 | [],_ => True
 | s :: r,x => s.Le M x.1 ∧ zq327 M r x.2
def PS.Le (M : Nat) : (p : PS) → p.T → Prop
 | .one s,x => s.Le M x
 | .agg l,x => zq327 M l x
 | .ref l _,x => zq327 M l x
def PsLe (M : Nat) : (ps : List PS) → PsT ps → Prop
 | [],_ => True
 | p :: r,x => p.Le M x.1 ∧ PsLe M r x.2
inductive Lf where
 | bool | int (k : IntKind) | str | row (e : TypeId)
 deriving DecidableEq
def adL : List Lf := [.bool,.int .u64,.int .u64]
def pfL : List Lf := adL ++ [.int .i64]
def opL : List Lf := [.int .i64] ++ pfL ++ adL ++ [.str,.int .i64,.int .i64]
def K.leaves : K → List Lf
 | .int => [.int .i64] | .u64 => [.int .u64] | .u8 => [.int .u8] | .bool => [.bool] | .str => [.str]
 | .addr => adL | .pfx => pfL | .lease => adL ++ [.str,.int .i64] | .op => opL
 | .entry => [.int .i64,.int .i64] ++ opL | .event => [.int .i64,.int .i64,.int .i64] ++ opL
def zq1615 (P : Program) (rec : TypeId → Option (List Lf)) : List Field → Nat → Option (List Lf)
 | [],_ => some []
 | f :: r,off =>
  match rec f.type,zq1615 P rec r (off + P.cellsOf f.type) with
  | some l,some l' => if f.offset = off ∧ P.cellsOf f.type = l.length then some (l ++ l') else none
  | _,_ => none
def zq1617 (P : Program) : Nat → TypeId → Option (List Lf)
 | 0,_ => none
 | n + 1,t =>
  match P.underlying t with
  | some .bool => some [.bool]
  | some (.int k) => some [.int k]
  | some .string => some [.str]
  | some (.slice e) => some [.row e]
  | some (.struct fs) => match zq1615 P (zq1617 P n) fs.toList 0 with | some l => if P.cellsOf t = l.length then some l else none | none => none
  | _ => none
section
variable {H : Type} {enc : TypeId × Value → H} {P : Program} {W : World} {M : Nat}
def LfIs (M : Nat) (enc : TypeId × Value → H) (P : Program) (W : World) : Lf → Value → Prop
 | .bool,v => ∃ b,v = .bool b
 | .int k,v => ∃ n,v = .int k n ∧ (Lit.int k n).wf = true
 | .str,v => ∃ s,v = .string s ∧ s.size ≤ maxLen ∧ s.size ≤ M
 | .row e,v => v = .slice none 0 0 ∨ ∃ a len cap,v = .slice (some a) len cap ∧ len ≤ cap ∧ cap ≤ maxLen ∧ len ≤ M ∧ ∀ i,i < cap → ∃ cs n y,W.cells? 0 (a.add (i * P.cellsOf e)) (P.cellsOf e) = some cs ∧ DataW.trod enc P W 0 (fun _ => true) true n e cs = some y
def LfsIs (M : Nat) (enc : TypeId × Value → H) (P : Program) (W : World) : List Lf → List Value → Prop
 | [],[] => True
 | l :: ls,v :: vs => LfIs M enc P W l v ∧ LfsIs M enc P W ls vs
 | _,_ => False
structure Small (M : Nat) (S : DataW H → Prop) : Prop where
 slice : ∀ es sp,es.length ≤ maxLen → S (.slice es sp) → es.length ≤ M
 agg : ∀ ps p,p ∈ ps → S (.agg ps) → S p
 str : ∀ s,s.length ≤ maxLen → S (.lit (.string s)) → s.length ≤ M
variable {S : DataW H → Prop} (hS : Small M S)
theorem zq1679 : Small (H := H) maxLen (fun _ => True) := ⟨fun _ _ h _ => h,fun _ _ _ _ => trivial,fun _ h _ => h⟩
theorem LfsIs.app : ∀ {l l' : List Lf} {vs vs' : List Value},LfsIs M enc P W l vs → LfsIs M enc P W l' vs' → LfsIs M enc P W (l ++ l') (vs ++ vs')
 | [],_,[],_,_,h' => h'
 | [],_,_ :: _,_,h,_ => h.elim
 | _ :: _,_,[],_,h,_ => h.elim
 | _ :: _,_,_ :: _,_,h,h' => ⟨h.1,LfsIs.app h.2 h'⟩
theorem zq1616 {n m : Nat} {cs : List Value}
  (ih : ∀ (t : TypeId) (ls : List Lf) (cs : List Value) x,zq1617 P n t = some ls → DataW.trod enc P W 0 (fun _ => true) true m t cs = some x → S x.1 → LfsIs M enc P W ls cs) :
  ∀ (fl : List Field) (off : Nat) (l : List Lf),(∀ f ∈ fl,∃ y,DataW.trod enc P W 0 (fun _ => true) true m f.type ((cs.drop f.offset).take (P.cellsOf f.type)) = some y ∧ S y.1) →
   zq1615 P (zq1617 P n) fl off = some l → LfsIs M enc P W l ((cs.drop off).take l.length)
 | [],_,l,_,h => by
  simp only [zq1615,zc2] at h
  subst h
  simp [LfsIs]
 | f :: r,off,l,hf,h => by
  simp only [zq1615] at h
  split at h
  ·rename_i l1 l2 h1 h2
   split at h
   ·rename_i hc
    obtain ⟨hoff,hlen⟩ := hc
    injection h with h
    subst h
    obtain ⟨y,hy,hsy⟩ := hf f (by simp)
    have a1 := ih _ _ _ _ h1 hy hsy
    have a2 := zq1616 ih r _ l2 (fun g hg => hf g (by simp [hg])) h2
    rw [hoff,hlen] at a1
    rw [hlen,← List.drop_drop] at a2
    rw [zc24,List.take_add]
    exact a1.app a2
   ·cases h
  ·cases h
include hS in
theorem zq1619 : ∀ (n m : Nat) (t : TypeId) (ls : List Lf) (cs : List Value) x,zq1617 P n t = some ls → DataW.trod enc P W 0 (fun _ => true) true m t cs = some x → S x.1 → LfsIs M enc P W ls cs
 | 0,_,_,_,_,_,h,_,_ => by simp [zq1617] at h
 | n + 1,m,t,ls,cs,x,h,hx,hsx => by
  unfold zq1617 at h
  split at h
  ·rename_i hu
   injection h with h
   subst h
   cases m with
   | zero => simp [DataW.trod] at hx
   | succ m =>
    unfold DataW.trod at hx
    rw [hu] at hx
    split at hx <;> simp_all [LfsIs,LfIs]
  ·rename_i k hu
   injection h with h
   subst h
   cases m with
   | zero => simp [DataW.trod] at hx
   | succ m =>
    unfold DataW.trod at hx
    rw [hu] at hx
    split at hx <;> simp_all [LfsIs,LfIs]
  ·rename_i hu
   injection h with h
   subst h
   cases m with
   | zero => simp [DataW.trod] at hx
   | succ m =>
    have hstr := fun s => hS.str s
    unfold DataW.trod at hx
    rw [hu] at hx
    split at hx <;> simp_all [LfsIs,LfIs]
    obtain ⟨hx1,rfl⟩ := hx
    have := hstr _ (by simpa using hx1) hsx
    simpa using this
  ·rename_i e hu
   injection h with h
   subst h
   rcases Go.Deep.open_slice hu hx with ⟨rfl,_⟩ | ⟨a,len,cap,k,q,D,Pl,rfl,_,hl,hm,hk,hxe,hi⟩
   ·exact ⟨.inl rfl,trivial⟩
   ·have hlen : len ≤ M := by
     rw [hxe] at hsx
     have := hS.slice _ _ (by simp; omega) hsx
     simpa using this
    refine ⟨.inr ⟨a,len,cap,rfl,hl,hm,hlen,fun i hil => ?_⟩,trivial⟩
    obtain ⟨cs',h1,h2⟩ := hi i (by simp at hk; omega)
    exact ⟨cs',q,_,h1,h2⟩
  ·rename_i fs hu
   split at h
   ·rename_i l hl
    split at h
    ·rename_i hlen
     injection h with h
     subst h
     obtain ⟨xs,q,rfl,hxe,hc,hxs,hf⟩ := DataW.trod_struct hu hx
     rw [hxe] at hsx
     have := zq1616 (enc := enc) (W := W) (cs := cs) (fun t ls cs x => zq1619 n q t ls cs x) fs.toList 0 l (fun f hfm => by
      obtain ⟨i,hi⟩ := List.mem_iff_getElem?.1 hfm
      have hi' : fs[i]? = some f := by simpa using hi
      have := hf i f hi'
      have hil : i < xs.length := by rw [hxs]; exact (zc27.1 hi').1
      exact ⟨_,this.trans (zc0 hil),hS.agg _ _ (List.mem_map.2 ⟨_,List.getElem_mem hil,rfl⟩) hsx⟩) hl
     rw [List.drop_zero,List.take_of_length_le (by omega)] at this
     exact this
    ·cases h
   ·cases h
  ·cases h
theorem zq1827 {n : Int} (h : (Lit.int .u64 n).wf = true) : u64In n := by
 simp only [Lit.wf,IntKind.min,IntKind.max,IntKind.signed,IntKind.bits,zc4,decide_eq_true_eq] at h
 unfold u64In
 obtain ⟨h1,h2⟩ := h
 have h1' : (0 : Int) ≤ n := by simpa using h1
 have h2' : n ≤ 18446744073709551615 := by simpa using h2
 omega
theorem i64_wf {n : Int} (h : (Lit.int .i64 n).wf = true) : i64In n := by
 simp only [Lit.wf,IntKind.min,IntKind.max,IntKind.signed,IntKind.bits,zc4,decide_eq_true_eq] at h
 unfold i64In
 obtain ⟨h1,h2⟩ := h
 have h1' : (-9223372036854775808 : Int) ≤ n := by simpa using h1
 have h2' : n ≤ 9223372036854775807 := by simpa using h2
 omega
theorem u8_wf {n : Int} (h : (Lit.int .u8 n).wf = true) : u8In n := by
 simp only [Lit.wf,IntKind.min,IntKind.max,IntKind.signed,IntKind.bits,zc4,decide_eq_true_eq] at h
 unfold u8In
 obtain ⟨h1,h2⟩ := h
 have h1' : (0 : Int) ≤ n := by simpa using h1
 have h2' : n ≤ 255 := by simpa using h2
 omega
theorem zq1110 {cs : List Value} (h : LfsIs M enc P W [] cs) : cs = [] := by
 cases cs with
 | nil => rfl
 | cons c r => exact h.elim
theorem zq1109 {l : Lf} {ls : List Lf} {cs : List Value} (h : LfsIs M enc P W (l :: ls) cs) : ∃ c r,cs = c :: r ∧ LfIs M enc P W l c ∧ LfsIs M enc P W ls r := by
 cases cs with
 | nil => exact h.elim
 | cons c r => exact ⟨c,r,rfl,h.1,h.2⟩
theorem zq392 {ls : List Lf} {cs : List Value} (h : LfsIs M enc P W (adL ++ ls) cs) : ∃ (a : Ad) (r : List Value),cs = [.bool a.v6,.int .u64 a.hi,.int .u64 a.lo] ++ r ∧ a.In ∧ LfsIs M enc P W ls r := by
 obtain ⟨c,r,rfl,⟨b,rfl⟩,h_1⟩ := zq1109 h
 obtain ⟨c,r,rfl,⟨x,rfl,hx⟩,h_2⟩ := zq1109 h_1
 obtain ⟨c,r,rfl,⟨y,rfl,hy⟩,h_3⟩ := zq1109 h_2
 exact ⟨⟨b,x,y⟩,r,rfl,⟨zq1827 hx,zq1827 hy⟩,h_3⟩
theorem zq956 {ls : List Lf} {cs : List Value} (h : LfsIs M enc P W (.int .i64 :: ls) cs) : ∃ (n : Int) (r : List Value),cs = [.int .i64 n] ++ r ∧ i64In n ∧ LfsIs M enc P W ls r := by
 obtain ⟨c,r,rfl,⟨x,rfl,hx⟩,h_1⟩ := zq1109 h
 exact ⟨x,r,rfl,i64_wf hx,h_1⟩
theorem zq1793 {ls : List Lf} {cs : List Value} (h : LfsIs M enc P W (.str :: ls) cs) : ∃ (n : ByteArray) (r : List Value),cs = [.string n] ++ r ∧ strIn n ∧ LfsIs M enc P W ls r := by
 obtain ⟨c,r,rfl,⟨x,rfl,hx⟩,h_1⟩ := zq1109 h
 exact ⟨x,r,rfl,hx.1,h_1⟩
theorem zq1382 {ls : List Lf} {cs : List Value} (h : LfsIs M enc P W (pfL ++ ls) cs) : ∃ (a : Pf) (r : List Value),cs = [.bool a.ad.v6,.int .u64 a.ad.hi,.int .u64 a.ad.lo,.int .i64 a.bits] ++ r ∧ a.In ∧ LfsIs M enc P W ls r := by
 obtain ⟨a,r,rfl,ha,h⟩ := zq392 (ls := .int .i64 :: ls) h
 obtain ⟨n,r,rfl,hn,h_1⟩ := zq956 h
 exact ⟨⟨a,n⟩,r,rfl,⟨ha,hn⟩,h_1⟩
theorem zq1284 {ls : List Lf} {cs : List Value} (h : LfsIs M enc P W (opL ++ ls) cs) : ∃ (o : Oq) (r : List Value),(∀ ρ,cs = denL ρ (K.enc .op o) ++ r) ∧ o.In ∧ LfsIs M enc P W ls r := by
 obtain ⟨k,r,rfl,hk,h⟩ := zq956 (ls := pfL ++ (adL ++ (.str :: .int .i64 :: .int .i64 :: ls))) h
 obtain ⟨p,r,rfl,hp,h_1⟩ := zq1382 h
 obtain ⟨a,r,rfl,ha,h_2⟩ := zq392 h_1
 obtain ⟨s,r,rfl,hs,h_3⟩ := zq1793 h_2
 obtain ⟨x,r,rfl,hx,h_4⟩ := zq956 h_3
 obtain ⟨y,r,rfl,hy,h_5⟩ := zq956 h_4
 exact ⟨⟨k,p,a,s,x,y⟩,r,fun ρ => rfl,⟨hk,hp,ha,hs,hx,hy⟩,h_5⟩
theorem zq966 (k : K) {ls : List Lf} {cs : List Value} (h : LfsIs M enc P W (k.leaves ++ ls) cs) : ∃ (a : k.T) (r : List Value),(∀ ρ,cs = denL ρ (k.enc a) ++ r) ∧ k.In a ∧ LfsIs M enc P W ls r ∧ k.Le M a := by
 cases k with
 | int => obtain ⟨n,r,rfl,hn,h'⟩ := zq956 h; exact ⟨n,r,fun ρ => rfl,hn,h',trivial⟩
 | u64 => obtain ⟨c,r,rfl,⟨x,rfl,hx⟩,h'⟩ := zq1109 h; exact ⟨x,r,fun ρ => rfl,zq1827 hx,h',trivial⟩
 | u8 => obtain ⟨c,r,rfl,⟨x,rfl,hx⟩,h'⟩ := zq1109 h; exact ⟨x,r,fun ρ => rfl,u8_wf hx,h',trivial⟩
 | bool => obtain ⟨c,r,rfl,⟨x,rfl⟩,h'⟩ := zq1109 h; exact ⟨x,r,fun ρ => rfl,trivial,h',trivial⟩
 | str => obtain ⟨c,r,rfl,⟨x,rfl,hx,hM⟩,h'⟩ := zq1109 h; exact ⟨x,r,fun ρ => rfl,hx,h',hM⟩
 | addr => obtain ⟨n,r,rfl,hn,h'⟩ := zq392 h; exact ⟨n,r,fun ρ => rfl,hn,h',trivial⟩
 | pfx => obtain ⟨n,r,rfl,hn,h'⟩ := zq1382 h; exact ⟨n,r,fun ρ => rfl,hn,h',trivial⟩
 | lease =>
  obtain ⟨a,r,rfl,ha,h⟩ := zq392 (ls := .str :: .int .i64 :: ls) h
  obtain ⟨s,r,rfl,hs,h_1⟩ := zq1793 h
  obtain ⟨n,r,rfl,hn,h_2⟩ := zq956 h_1
  exact ⟨(⟨a,s,n⟩ : Ls),r,fun ρ => rfl,⟨ha,hs,hn⟩,h_2,trivial⟩
 | op =>
  obtain ⟨o,r,h1,h2,h_3⟩ := zq1284 h
  exact ⟨o,r,h1,h2,h_3,trivial⟩
 | entry =>
  obtain ⟨x,r,rfl,hx,h⟩ := zq956 (ls := .int .i64 :: (opL ++ ls)) h
  obtain ⟨y,r,rfl,hy,h_4⟩ := zq956 h
  obtain ⟨o,r,h1,h2,h_5⟩ := zq1284 h_4
  exact ⟨(⟨x,y,o⟩ : En),r,fun ρ => by rw [h1 ρ]; rfl,⟨hx,hy,h2⟩,h_5,trivial⟩
 | event =>
  obtain ⟨x,r,rfl,hx,h⟩ := zq956 (ls := .int .i64 :: .int .i64 :: (opL ++ ls)) h
  obtain ⟨y,r,rfl,hy,h_6⟩ := zq956 h
  obtain ⟨z,r,rfl,hz,h_7⟩ := zq956 h_6
  obtain ⟨o,r,h1,h2,h_8⟩ := zq1284 h_7
  exact ⟨(⟨x,y,z,o⟩ : Ev),r,fun ρ => by rw [h1 ρ]; rfl,⟨hx,hy,hz,h2⟩,h_8,trivial⟩
theorem zq967 (k : K) {cs : List Value} (h : LfsIs M enc P W k.leaves cs) : ∃ a : k.T,(∀ ρ,cs = denL ρ (k.enc a)) ∧ k.In a ∧ k.Le M a := by
 obtain ⟨a,r,h1,h2,h3,h4⟩ := zq966 (ls := []) k (by simpa using h)
 rw [zq1110 h3] at h1
 exact ⟨a,fun ρ => by simpa using h1 ρ,h2,h4⟩
theorem zq1579 (k : K) (a0 : Addr) (e : TypeId) (d : Nat) (hsh : zq1617 P d e = some k.leaves) (hsz : P.cellsOf e = k.sz) :
  ∀ n,(∀ i,i < n → ∃ cs q y,W.cells? 0 (a0.add (i * P.cellsOf e)) (P.cellsOf e) = some cs ∧ DataW.trod enc P W 0 (fun _ => true) true q e cs = some y) →
   ∃ l : List k.T,l.length = n ∧ (∀ a ∈ l,k.In a) ∧ ∀ ρ (j : Nat) (u : Value),(l.flatMap fun a => denL ρ (k.enc a))[j]? = some u → W.cell? (a0.add j) = some u
 | 0,_ => ⟨[],rfl,(fun a h => by cases h),fun ρ j u h => by simp at h⟩
 | n + 1,h => by
  obtain ⟨l,h1,h2,h3⟩ := zq1579 k a0 e d hsh hsz n (fun i hi => h i (by omega))
  obtain ⟨cs,q,y,hc,hy⟩ := h n (by omega)
  obtain ⟨a,ha,hin,_⟩ := zq967 k (zq1619 (M := maxLen) (S := fun _ => True) zq1679 d q e _ cs y hsh hy trivial)
  obtain ⟨_,hcl,hcc⟩ := World.cells?_some hc
  refine ⟨l ++ [a],by simp [h1],fun b hb => ?_,fun ρ j u hj => ?_⟩
  ·rcases zc36.1 hb with hb | hb
   ·exact h2 b hb
   ·simp only [zc38] at hb; subst hb; exact hin
  ·have hfl : (l.flatMap fun a => denL ρ (k.enc a)).length = n * k.sz := by
    have : ∀ l : List k.T,(l.flatMap fun a => denL ρ (k.enc a)).length = l.length * k.sz := by
     intro l
     induction l with
     | nil => simp
     | cons b r ih => rw [List.flatMap_cons,zc24,ih,zq710,zq745,zc21,Nat.succ_mul,Nat.add_comm]
    rw [this,h1]
   rw [List.flatMap_append] at hj
   by_cases hjn : j < n * k.sz
   ·rw [zc6 (by rw [hfl]; exact hjn)] at hj
    exact h3 ρ j u hj
   ·rw [zc12 (by rw [hfl]; omega),hfl] at hj
    have hj' : cs[j - n * k.sz]? = some u := by simpa [ha ρ] using hj
    have hjl : j - n * k.sz < P.cellsOf e := by rw [← hcl]; exact (zc1.1 hj').1
    have := hcc _ hjl
    rw [Go.Deep.add_add,hsz,show n * k.sz + (j - n * k.sz) = j by omega] at this
    rw [this,hj']
def zq1601 : List Seg → List Lf
 | [] => []
 | .fl k :: r => k.leaves ++ zq1601 r
 | .row _ e :: r => .row e :: zq1601 r
 | .nest _ _ e _ _ :: r => .row e :: zq1601 r
def zq1603 (P : Program) : List Seg → Bool
 | [] => true
 | .fl _ :: r => zq1603 P r
 | .row k e :: r => decide (zq1617 P 9 e = some k.leaves) && decide (P.cellsOf e = k.sz) && zq1603 P r
 | .nest hk ik e ie _ :: r => decide (zq1617 P 9 e = some (hk.leaves ++ [.row ie])) && decide (P.cellsOf e = hk.sz + 1) && decide (zq1617 P 9 ie = some ik.leaves) && decide (P.cellsOf ie = ik.sz) && zq1603 P r
def zq961 (P : Program) (t : TypeId) : Bool := match P.underlying t with | some (.struct _) => true | _ => false
def zq1387 (P : Program) (t : TypeId) : Bool := match P.underlying t with | some .bool => true | some (.int _) => true | some .string => true | some (.slice _) => true | _ => false
def psFit (P : Program) : PS → TypeId → Bool
 | .one (.fl k),t => (bif k.isAgg then zq961 P t else zq1387 P t) && decide (zq1617 P 9 t = some k.leaves)
 | .one (.row k e),t => zq1387 P t && decide (zq1617 P 9 t = some [.row e]) && zq1603 P [.row k e]
 | .one (.nest hk ik e ie bo),t => zq1387 P t && decide (zq1617 P 9 t = some [.row e]) && zq1603 P [.nest hk ik e ie bo]
 | .agg l,t => zq961 P t && decide (zq1617 P 9 t = some (zq1601 l)) && zq1603 P l
 | .ref _ _,_ => false
def zq439 (P : Program) : List PS → List TypeId → Bool
 | [],[] => true
 | p :: r,t :: ts => psFit P p t && zq439 P r ts
 | _,_ => false
theorem zq542 {w : World} {a : Addr} {n : Nat} {cs : List Value} (h : w.cells? 0 a n = some cs) (hn : 0 < n) : a.block < w.heap.size := by
 obtain ⟨_,hcl,hcc⟩ := World.cells?_some h
 have h0 := hcc 0 hn
 rw [zc0 (by omega)] at h0
 unfold World.cell? at h0
 rw [zq505] at h0
 cases hb : w.heap[a.block]? with
 | none => rw [hb] at h0; simp at h0
 | some o => exact (zc27.1 hb).1
theorem zq1576 (w : World) (k : K) (e : TypeId) (v : Value) (h : LfIs M enc P w (.row e) v) (hsh : zq1617 P 9 e = some k.leaves) (hsz : P.cellsOf e = k.sz) :
  ∃ l : List k.T,rowIn k l ∧ l.length ≤ M ∧ ∀ ρ,RowIs w v l.length k.sz (l.flatMap fun a => denL ρ (k.enc a)) := by
 rcases h with hv | ⟨a,len,cap,hv,hle,hm,hM,hi⟩
 ·exact ⟨[],⟨Nat.zero_le _,fun a h => by cases h⟩,Nat.zero_le _,fun ρ => ⟨by simp,none,0,hv,zc47 _,Nat.zero_le _,fun _ => rfl,fun a h => by cases h⟩⟩
 ·obtain ⟨l,h1,h2,h3⟩ := zq1579 (enc := enc) k a e 9 hsh hsz len (fun i h => hi i (by omega))
  refine ⟨l,⟨by omega,h2⟩,by omega,fun ρ => ⟨?_,some a,cap,by rw [hv,h1],by omega,hm,(fun h => by cases h),fun b hb => ?_⟩⟩
  ·have : ∀ l : List k.T,(l.flatMap fun a => denL ρ (k.enc a)).length = l.length * k.sz := by
    intro l
    induction l with
    | nil => simp
    | cons b r ih => rw [List.flatMap_cons,zc24,ih,zq710,zq745,zc21,Nat.succ_mul,Nat.add_comm]
   exact this l
  ·cases hb
   refine ⟨fun hc => ?_,fun j u hj => h3 ρ j u hj⟩
   obtain ⟨cs,q,y,h4,_⟩ := hi 0 hc
   have := zq542 h4 (by rw [hsz]; exact zq1801 k)
   rw [zq505] at this
   exact this
theorem zq922 {vs : List Value} {x : Value} {i : Nat} (h : i < vs.length) : innV (.tuple (vs ++ [x]).toArray) (i : Int) = innV (.tuple vs.toArray) (i : Int) := by
 rw [zq924,zq924,zc3,zc3,zc6 h]
theorem zq1241 (hk ik : K) (a0 : Addr) (e ie : TypeId) (d : Nat) (hsh : zq1617 P d e = some (hk.leaves ++ [.row ie])) (hsz : P.cellsOf e = hk.sz + 1) (hsi : zq1617 P 9 ie = some ik.leaves) (hzi : P.cellsOf ie = ik.sz) :
  ∀ n,(∀ i,i < n → ∃ cs q y,W.cells? 0 (a0.add (i * P.cellsOf e)) (P.cellsOf e) = some cs ∧ DataW.trod enc P W 0 (fun _ => true) true q e cs = some y) →
   ∃ (l : List hk.T) (ls : List (List ik.T)) (vs : List Value),l.length = n ∧ ls.length = n ∧ vs.length = n ∧ (∀ a ∈ l,hk.In a) ∧ (∀ x ∈ ls,rowIn ik x) ∧
    (∀ (i : Nat) (x : Value) (y : List ik.T),vs[i]? = some x → ls[i]? = some y → ∀ ρ,RowIs W x y.length ik.sz (y.flatMap fun a => denL ρ (ik.enc a))) ∧
    ∀ ρ (j : Nat) (u : Value),(zq1230 ρ hk (.tuple vs.toArray) l 0)[j]? = some u → W.cell? (a0.add j) = some u
 | 0,_ => ⟨[],[],[],rfl,rfl,rfl,(fun a h => by cases h),(fun a h => by cases h),(fun i x y h => by simp at h),fun ρ j u h => by simp [zq1230] at h⟩
 | n + 1,h => by
  obtain ⟨l,ls,vs,h1,h2,h3,h4,h5,h6,h7⟩ := zq1241 hk ik a0 e ie d hsh hsz hsi hzi n (fun i hi => h i (by omega))
  obtain ⟨cs,q,y,hc,hy⟩ := h n (by omega)
  obtain ⟨a,r,ha,hin,hr,_⟩ := zq966 hk (zq1619 (M := maxLen) (S := fun _ => True) zq1679 d q e _ cs y hsh hy trivial)
  obtain ⟨v,r',rfl,hv,hr'⟩ := zq1109 hr
  have := zq1110 hr'
  subst this
  obtain ⟨x,hx1,_,hx3⟩ := zq1576 W ik ie v hv hsi hzi
  obtain ⟨_,hcl,hcc⟩ := World.cells?_some hc
  have hvs : zq1637 v = v := by obtain ⟨_,A,cap,hv,_⟩ := hx3 (fun _ => Go.undef); rw [hv]; rfl
  refine ⟨l ++ [a],ls ++ [x],vs ++ [v],by simp [h1],by simp [h2],by simp [h3],fun b hb => ?_,fun b hb => ?_,fun i x' y' hi hl => ?_,fun ρ j u hj => ?_⟩
  ·rcases zc36.1 hb with hb | hb
   ·exact h4 b hb
   ·simp only [zc38] at hb; subst hb; exact hin
  ·rcases zc36.1 hb with hb | hb
   ·exact h5 b hb
   ·simp only [zc38] at hb; subst hb; exact hx1
  ·by_cases hin : i < n
   ·rw [zc6 (by omega)] at hi hl
    exact h6 i x' y' hi hl
   ·have hi0 : i = n := by
     have := (zc1.1 hi).1
     simp at this
     omega
    subst hi0
    rw [zc12 (by omega),h3] at hi
    rw [zc12 (by omega),h2] at hl
    simp only [Nat.sub_self,zc13,zc2] at hi hl
    subst hi hl
    exact hx3
  ·have hfl := zq1239 ρ hk (.tuple vs.toArray) l 0
   rw [h1] at hfl
   rw [zq1231,Nat.zero_add,zq1232 ρ hk (.tuple (vs ++ [v]).toArray) (.tuple vs.toArray) l 0 0 (fun i hi => by rw [Nat.zero_add]; exact zq922 (by omega))] at hj
   by_cases hjn : j < n * (hk.sz + 1)
   ·rw [zc6 (by rw [hfl]; exact hjn)] at hj
    exact h7 ρ j u hj
   ·rw [zc12 (by rw [hfl]; omega),hfl,h1] at hj
    have hlast : innV (.tuple (vs ++ [v]).toArray) (n : Int) = v := by
     rw [zq924,zc3,zc12 (by omega),h3,Nat.sub_self]
     exact hvs
    have hj' : cs[j - n * (hk.sz + 1)]? = some u := by
     rw [ha ρ]
     simpa [zq1230,hlast] using hj
    have hjl : j - n * (hk.sz + 1) < P.cellsOf e := by rw [← hcl]; exact (zc1.1 hj').1
    have := hcc _ hjl
    rw [Go.Deep.add_add,hsz,show n * (hk.sz + 1) + (j - n * (hk.sz + 1)) = j by omega] at this
    rw [this,hj']
theorem zq1242 (w : World) (ρ : Nat → Value) (hk ik : K) (e ie : TypeId) (bo : Bool) (v : Value) (n : Nat) (h : LfIs M enc P w (.row e) v) (hsh : zq1617 P 9 e = some (hk.leaves ++ [.row ie])) (hsz : P.cellsOf e = hk.sz + 1) (hsi : zq1617 P 9 ie = some ik.leaves) (hzi : P.cellsOf ie = ik.sz) :
  ∃ x : List hk.T × List (List ik.T),((rowIn hk x.1 ∧ x.2.length = x.1.length ∧ ∀ l ∈ x.2,rowIn ik l) ∧ x.1.length ≤ M) ∧ ∃ us,zq0 w ρ n [v] [.row (n + 1)] [.bag ik x.2 ie (false && bo) false,.row (.nest hk x.1 n) e false] us := by
 have gen : ∀ (l : List hk.T) (ls : List (List ik.T)) (vs : List Value),zq1637 v = v → vs.length = ls.length → (∀ (i : Nat) (x : Value) (y : List ik.T),vs[i]? = some x → ls[i]? = some y → ∀ ρ,RowIs w x y.length ik.sz (y.flatMap fun a => denL ρ (ik.enc a))) →
   (∀ ρ,RowIs w v l.length (hk.sz + 1) (zq1230 ρ hk (.tuple vs.toArray) l 0)) → ∃ us,zq0 w ρ n [v] [.row (n + 1)] [.bag ik ls ie (false && bo) false,.row (.nest hk l n) e false] us := by
  intro l ls vs hs hl hb hr
  refine ⟨[.tuple vs.toArray,v],rfl,fun ρ' hg => ?_,fun W' ρ' hg i o u hi hu => ?_,by simp [ltL,SV.lt],fun o ho => ?_⟩
  ·have := hg.tail.head
   simp only [denL,den,this,hs]
  ·have h0 := hg.head
   match i with
   | 0 =>
    simp only [zc13,zc2] at hi hu
    subst hi hu
    exact ⟨⟨vs,rfl,hl,fun i x l hx hl => by simp only [Bool.false_and,zc16,if_false]; exact hb i x l hx hl ρ',(fun h => by cases h),fun h => by cases h⟩,rfl⟩
   | 1 =>
    simp only [zc35,zc13,zc2] at hi hu
    subst hi hu
    refine ⟨⟨by simp [C.sz],fun u hu => zq1240 _ _ _ _ _ u hu,?_⟩,rfl⟩
    rw [if_neg (by simp)]
    simp only [C.den,h0,C.n,C.sz]
    exact hr ρ'
   | i + 2 => simp at hi
  ·simp only [zc28,zc37,or_false] at ho
   rcases ho with rfl | rfl
   ·rfl
   ·simp [Obj.lt,C.lt]
 rcases h with hv | ⟨a,len,cap,hv,hle,hm,hM,hi⟩
 ·refine ⟨([],[]),⟨⟨⟨Nat.zero_le _,fun a h => by cases h⟩,rfl,fun l h => by cases h⟩,Nat.zero_le _⟩,gen [] [] [] (by rw [hv]; rfl) rfl (fun i x y h => by simp at h) fun ρ => ⟨by simp [zq1230],none,0,hv,zc47 _,Nat.zero_le _,fun _ => rfl,fun a h => by cases h⟩⟩
 ·obtain ⟨l,ls,vs,h1,h2,h3,h4,h5,h6,h7⟩ := zq1241 (enc := enc) hk ik a e ie 9 hsh hsz hsi hzi len (fun i h => hi i (by omega))
  refine ⟨(l,ls),⟨⟨⟨by show l.length ≤ maxLen; omega,h4⟩,by show ls.length = l.length; omega,h5⟩,by show l.length ≤ M; omega⟩,gen l ls vs (by rw [hv]; rfl) (by omega) h6 fun ρ => ⟨zq1239 _ _ _ _ _,some a,cap,by rw [hv,h1],by omega,hm,(fun h => by cases h),fun b hb => ?_⟩⟩
  cases hb
  refine ⟨fun hc => ?_,fun j u hj => h7 ρ j u hj⟩
  obtain ⟨cs,q,y,h4,_⟩ := hi 0 hc
  have := zq542 h4 (by rw [hsz]; omega)
  rw [zq505] at this
  exact this
theorem zq1580 (w : World) (ρ : Nat → Value) (k : K) (e : TypeId) (v : Value) (n : Nat) (h : LfIs M enc P w (.row e) v)
  (hsh : zq1617 P 9 e = some k.leaves) (hsz : P.cellsOf e = k.sz) : ∃ l : List k.T,(rowIn k l ∧ l.length ≤ M) ∧ zq0 w ρ n [v] [.row n] [.row (.ty k l) e false] [v] := by
 obtain ⟨l,h1,h2,h3⟩ := zq1576 w k e v h hsh hsz
 obtain ⟨_,A,cap,hv,_⟩ := h3 ρ
 refine ⟨l,⟨h1,h2⟩,rfl,fun ρ' hg => by simp [denL,den,hg.head,hv,zq1637],fun W' ρ' hg i o u hi hu => ?_,by simp [ltL,SV.lt],fun o ho => by simp at ho; subst ho; rfl⟩
 cases i with
 | zero =>
  simp only [zc13,zc2] at hi hu
  subst hi hu
  exact ⟨zq1578 e (h3 ρ),rfl⟩
 | succ i => simp at hi
theorem fl_seg (w : World) (ρ : Nat → Value) (k : K) (a : k.T) (cs : List Value) (n : Nat) (h : ∀ ρ,cs = denL ρ (k.enc a)) : zq0 w ρ n cs (k.enc a) [] [] :=
 ⟨rfl,fun ρ' _ => (h ρ').symm,fun _ _ _ i o v h => by simp at h,zq746 k a _,fun o h => by cases h⟩
theorem zq1604 (w : World) (ρ : Nat → Value) : ∀ (l : List Seg) (cs : List Value) (n : Nat),zq1603 P l = true → LfsIs M enc P w (zq1601 l) cs →
  ∃ x : SegsT l,(zq326 l x ∧ zq327 M l x) ∧ ∃ us,zq0 w ρ n cs (zq744 false l x n).1 (zq744 false l x n).2 us
 | [],cs,n,_,h => by
  rw [zq1110 h]
  exact ⟨(),⟨trivial,trivial⟩,[],zq0.nil w ρ n⟩
 | .fl k :: r,cs,n,hf,h => by
  obtain ⟨a,cs',h1,h2,h3,h4⟩ := zq966 k h
  have e1 := h1 ρ
  obtain ⟨x,hx,us,hu⟩ := zq1604 w ρ r cs' n hf h3
  refine ⟨(a,x),⟨⟨h2,hx.1⟩,h4,hx.2⟩,us,?_⟩
  have h0 := fl_seg w ρ k a (denL ρ (k.enc a)) n (fun ρ' => zq709 ρ' ρ k a)
  have := h0.app hu
  rw [← e1] at this
  exact this
 | .row k e :: r,cs,n,hf,h => by
  obtain ⟨v,cs',rfl,h1,h2⟩ := zq1109 h
  simp only [zq1603,zc4,decide_eq_true_eq] at hf
  obtain ⟨l,hl,hrow⟩ := zq1580 w ρ k e v n h1 hf.1.1 hf.1.2
  obtain ⟨x,hx,us,hu⟩ := zq1604 w ρ r cs' (n + 1) hf.2 h2
  exact ⟨(l,x),⟨⟨hl.1,hx.1⟩,hl.2,hx.2⟩,_,hrow.app hu⟩
 | .nest hk ik e ie bo :: r,cs,n,hf,h => by
  obtain ⟨v,cs',rfl,h1,h2⟩ := zq1109 h
  simp only [zq1603,zc4,decide_eq_true_eq] at hf
  obtain ⟨l,hl,us0,hrow⟩ := zq1242 w ρ hk ik e ie bo v n h1 hf.1.1.1.1 hf.1.1.1.2 hf.1.1.2 hf.1.2
  obtain ⟨x,hx,us,hu⟩ := zq1604 w ρ r cs' (n + 2) hf.2 h2
  exact ⟨(l,x),⟨⟨hl.1,hx.1⟩,hl.2,hx.2⟩,_,hrow.app hu⟩
theorem zq1274 {t : TypeId} {v : Value} {r : Reach} {b : Nat} (h : zq961 P t = true) (hv : Value.okWide P W r b t v) : ∃ cs,v = .agg cs := by
 unfold zq961 at h
 split at h
 ·rename_i fs hu
  simp only [Value.okWide,hu] at hv
  obtain ⟨cs,rfl,_⟩ := hv
  exact ⟨cs,rfl⟩
 ·cases h
theorem zq1273 {t : TypeId} {v : Value} {r : Reach} {b : Nat} (h : zq1387 P t = true) (hv : Value.okWide P W r b t v) : v.cells.toList = [v] := by
 have hc : Cell.okWide P W r b t v := by
  unfold zq1387 at h
  split at h <;> first | (cases h; done) | simp_all [Value.okWide]
 unfold zq1387 at h
 cases v <;> first | rfl | skip
 all_goals (exfalso; unfold Cell.okWide Cell.ok at hc; split at h <;> simp_all)
include hS in
theorem p_read (w : World) (ρ : Nat → Value) (p : PS) (t : TypeId) (v : Value) (d : DataW H) (q : List MemPlace) {r : Reach} {b : Nat} (n : Nat) (hf : psFit P p t = true) (hv : Value.okWide P w r b t v) (h : DataW.Trod enc P w 0 (fun _ => true) true t v d q) (hsd : S d) :
  ∃ x : p.T,(p.In x ∧ p.Le M x) ∧ ∃ us,zq0 w ρ n [v] [(encP false p x n).1] (encP false p x n).2 us := by
 obtain ⟨fuel,h⟩ := h
 cases p with
 | one s =>
  cases s with
  | fl k =>
   simp only [psFit,zc4,decide_eq_true_eq] at hf
   obtain ⟨a,ha,hin,hle⟩ := zq967 k (zq1619 hS 9 fuel t _ _ _ hf.2 h hsd)
   refine ⟨a,⟨hin,hle⟩,[],rfl,fun ρ' _ => ?_,fun _ _ _ i o v h => ?_,?_,fun o ho => ?_⟩
   ·show [den ρ' (flV k a)] = [v]
    cases hk : k.isAgg
    ·rw [hk] at hf
     have hc := zq1273 hf.1 hv
     have e := ha ρ'
     rw [hc] at e
     unfold flV
     rw [hk]
     have hlen := zq745 k a
     simp only [cond_false]
     match hx : k.enc a,hlen with
     | [],_ => rw [hx] at e; simp [denL] at e
     | [c],_ => rw [hx] at e; simpa [denL] using e.symm
     | c :: c' :: r,_ => rw [hx] at e; simp [denL] at e
    ·rw [hk] at hf
     obtain ⟨cs,rfl⟩ := zq1274 hf.1 hv
     have e := ha ρ'
     unfold flV
     rw [hk]
     simp only [cond_true,den]
     rw [← e]
     rfl
   ·have h : ([] : Mem)[i]? = some o := h
    simp at h
   ·show (SV.lt (n + 0) (flV k a) && true) = true
    rw [zq830]
    rfl
   ·have ho : o ∈ ([] : Mem) := ho
    cases ho
  | row k e =>
   simp only [psFit,zq1603,zc4,decide_eq_true_eq] at hf
   have hc := zq1273 hf.1.1 hv
   have h1 := zq1619 hS 9 fuel t _ _ _ hf.1.2 h hsd
   rw [hc] at h1
   obtain ⟨l,hl,hrow⟩ := zq1580 w ρ k e v n h1.1 hf.2.1.1 hf.2.1.2
   exact ⟨l,hl,_,hrow⟩
  | nest hk ik e ie bo =>
   simp only [psFit,zq1603,zc4,decide_eq_true_eq] at hf
   have hc := zq1273 hf.1.1 hv
   have h1 := zq1619 hS 9 fuel t _ _ _ hf.1.2 h hsd
   rw [hc] at h1
   obtain ⟨l,hl,us,hrow⟩ := zq1242 w ρ hk ik e ie bo v n h1.1 hf.2.1.1.1.1 hf.2.1.1.1.2 hf.2.1.1.2 hf.2.1.2
   exact ⟨l,hl,us,hrow⟩
 | agg l =>
  simp only [psFit,zc4,decide_eq_true_eq] at hf
  obtain ⟨cs,rfl⟩ := zq1274 hf.1.1 hv
  obtain ⟨x,hx,us,hu⟩ := zq1604 w ρ l cs.toList n hf.2 (zq1619 hS 9 fuel t _ _ _ hf.1.2 h hsd)
  refine ⟨x,hx,us,hu.len,fun ρ' hg => ?_,hu.obj,?_,hu.lt.2⟩
  ·have := hu.den ρ' hg
   simp only [encP,denL,den,this]
  ·simpa [encP,ltL,SV.lt] using hu.lt.1
 | ref l ty => simp [psFit] at hf
include hS in
theorem zq441 (w : World) (ρ : Nat → Value) {r : Reach} {b : Nat} : ∀ (ps : List PS) (ts : List TypeId) (vs : List Value) (ds : List (DataW H)) (q : List MemPlace) (n : Nat),zq439 P ps ts = true →
  (∀ (j : Nat) t v,ts[j]? = some t → vs[j]? = some v → Value.okWide P w r b t v) → DataW.TrodAll enc P w 0 (fun _ => true) true ts vs ds q → (∀ d ∈ ds,S d) →
  ∃ x : PsT ps,(PsIn ps x ∧ PsLe M ps x) ∧ ∃ us,zq0 w ρ n vs (encA false ps x n).1 (encA false ps x n).2 us
 | [],[],[],_,_,n,_,_,_,_ => ⟨(),⟨trivial,trivial⟩,[],zq0.nil w ρ n⟩
 | [],[],_ :: _,_,_,_,_,_,h,_ => (by cases h)
 | [],_ :: _,_,_,_,_,hf,_,_,_ => by simp [zq439] at hf
 | _ :: _,[],_,_,_,_,hf,_,_,_ => by simp [zq439] at hf
 | _ :: _,_ :: _,[],_,_,_,_,_,h,_ => by cases h
 | _ :: _,_ :: _,_ :: _,[],_,_,_,_,h,_ => by cases h
 | p :: ps,t :: ts,v :: vs,d :: ds,q,n,hf,hv,h,hsd => by
  simp only [zq439,zc4] at hf
  obtain ⟨q1,q2,h1,h2,_⟩ := h
  obtain ⟨x,hx,us,hu⟩ := p_read hS w ρ p t v d q1 n hf.1 (hv 0 t v rfl rfl) h1 (hsd d (by simp))
  obtain ⟨y,hy,us',hu'⟩ := zq441 w ρ ps ts vs ds q2 (n + (encP false p x n).2.length) hf.2 (fun j t' v' h3 h4 => hv (j + 1) t' v' (by simpa using h3) (by simpa using h4)) h2 (fun d' hd => hsd d' (by simp [hd]))
  exact ⟨(x,y),⟨⟨hx.1,hy.1⟩,hx.2,hy.2⟩,_,hu.app hu'⟩
include hS in
theorem zq991 (hG : Glob P W) {f : FuncId} {ps : List PS} {t : PsT ps → Option (PsT [PS.one (.fl .bool)])} (ht : TrOk P f (con ps [PS.one (.fl .bool)] t)) (hlaw : ∀ x,PsIn ps x → PsLe M ps x → t x = some ((true : Bool),()))
  (hdec : ∀ x : PsT ps,decA (encA false ps x 0).2 ps (encA false ps x 0).1 = some x) (hany : ∀ x : PsT ps,(encA false ps x 0).1.all (fun v => !v.isAny) = true)
  {ts : List TypeId} {vs : List Value} {ds : List (DataW H)} {q : List MemPlace} {r : Reach} {b : Nat} (hf : zq439 P ps ts = true)
  (hv : ∀ (j : Nat) t v,ts[j]? = some t → vs[j]? = some v → Value.okWide P W r b t v) (h : DataW.TrodAll enc P W 0 (fun _ => true) true ts vs ds q) (hsd : ∀ d ∈ ds,S d) :
  Calls P f vs.toArray W fun e W' => e = .returned (.bool true) ∧ Below W.heap.size W W' := by
 obtain ⟨x,hx,us,hu⟩ := zq441 hS W (fun _ => Go.undef) ps ts vs ds q 0 hf hv h hsd
 have hrel := hu.rel
 have hden := hu.den _ (zq879 us)
 have hk : conTr ps [PS.one (.fl .bool)] t (SV × Mem) (encA false ps x 0).1 (encA false ps x 0).2 (fun r m => some (r,m)) = some (SV.b true,(encA false ps x 0).2 ++ []) := by
  simp only [conTr,hdec x,hlaw x hx.1 hx.2,zc49]
  rfl
 have hc := ht.1 W hG (SV × Mem) (encA false ps x 0).1 (encA false ps x 0).2 (fun r m => some (r,m)) _ hk (hany x)
 have := hc.call (by have := hu.lt.1; simpa using this) _ W hrel
 rw [hden] at this
 refine this.mono ?_
 rintro e w' ⟨ρ',r',m',rfl,hm',_,_,_,hres⟩
 have hres : (some (r',m') : Option (SV × Mem)) = some (SV.b true,(encA false ps x 0).2 ++ []) := hres
 injection hres with hres
 injection hres with h1 h2
 refine ⟨?_,hm'.below⟩
 rw [h1]
 rfl
theorem zq990 (hG : Glob P W) {f : FuncId} {ps : List PS} {t : PsT ps → Option (PsT [PS.one (.fl .bool)])} (ht : TrOk P f (con ps [PS.one (.fl .bool)] t)) (hlaw : ∀ x,PsIn ps x → t x = some ((true : Bool),()))
  (hdec : ∀ x : PsT ps,decA (encA false ps x 0).2 ps (encA false ps x 0).1 = some x) (hany : ∀ x : PsT ps,(encA false ps x 0).1.all (fun v => !v.isAny) = true)
  {ts : List TypeId} {vs : List Value} {ds : List (DataW H)} {q : List MemPlace} {r : Reach} {b : Nat} (hf : zq439 P ps ts = true)
  (hv : ∀ (j : Nat) t v,ts[j]? = some t → vs[j]? = some v → Value.okWide P W r b t v) (h : DataW.TrodAll enc P W 0 (fun _ => true) true ts vs ds q) :
  Calls P f vs.toArray W fun e W' => e = .returned (.bool true) ∧ Below W.heap.size W W' :=
 zq991 zq1679 hG ht (fun x hx _ => hlaw x hx) hdec hany hf hv h (fun _ _ => trivial)
theorem zq440 {W' : World} (hl : laidOutB P = true) (hb : Below W.heap.size W W') : ∀ (ts : List TypeId) (vs : List Value) (ds : List (DataW H)) (q : List MemPlace),(ts.all fun t => P.readableRec t && decide (t < P.types.size)) = true →
  DataW.TrodAll enc P W 0 (fun _ => true) true ts vs ds q → DataW.TrodAll enc P W' 0 (fun b => decide (b < W.heap.size)) true ts vs ds q
 | [],[],[],_,_,h => h
 | [],[],_ :: _,_,_,h => h
 | [],_ :: _,_,_,_,h => h
 | _ :: _,[],_,_,_,h => h
 | _ :: _,_ :: _,[],_,_,h => h
 | t :: ts,v :: vs,d :: ds,q,hr,h => by
  simp only [List.all_cons,zc4,decide_eq_true_eq] at hr
  obtain ⟨q1,q2,h1,h2,h3⟩ := h
  have lt0 : ∀ x ∈ q1,x.block < W.heap.size := by obtain ⟨m,hm⟩ := h1; exact DataW.trod_lt m _ _ _ hm
  exact ⟨q1,q2,Below.trod hl hr.1.1 hr.1.2 h1 hb lt0,zq440 hl hb ts vs ds q2 hr.2 h2,h3⟩
theorem zq834 (hG : Glob P W) {f : FuncId} {ps : List PS} {k : K} {t : PsT ps → Option (PsT [PS.one (.fl k)])} (ht : TrOk P f (con ps [PS.one (.fl k)] t)) {x : PsT ps} {y : k.T} (hx : t x = some (y,()))
  (hdec : decA (encA false ps x 0).2 ps (encA false ps x 0).1 = some x) (hany : (encA false ps x 0).1.all (fun v => !v.isAny) = true) {ρ : Nat → Value} {vals us : List Value}
  (hu : zq0 W ρ 0 vals (encA false ps x 0).1 (encA false ps x 0).2 us) :
  Calls P f vals.toArray W fun e W' => (∃ ρ',e = .returned (den ρ' (flV k y))) ∧ Below W.heap.size W W' := by
 have hrel := hu.rel
 have hden := hu.den _ (zq879 us)
 have hk : conTr ps [PS.one (.fl k)] t (SV × Mem) (encA false ps x 0).1 (encA false ps x 0).2 (fun r m => some (r,m)) = some (flV k y,(encA false ps x 0).2 ++ []) := by
  simp only [conTr,hdec,hx,zc49]
  rfl
 have hc := ht.1 W hG (SV × Mem) (encA false ps x 0).1 (encA false ps x 0).2 (fun r m => some (r,m)) _ hk hany
 have := hc.call (by have := hu.lt.1; simpa using this) _ W hrel
 rw [hden] at this
 refine this.mono ?_
 rintro e w' ⟨ρ',r',m',rfl,hm',_,_,_,hres⟩
 have hres : (some (r',m') : Option (SV × Mem)) = some (flV k y,(encA false ps x 0).2 ++ []) := hres
 injection hres with hres
 injection hres with h1 h2
 exact ⟨⟨ρ',by rw [h1]⟩,hm'.below⟩
end
end Go.Ma
namespace Go.Ma
open Go Go.RowKit
def loopN {α Y : Type} (step : (α → Option Y) → α → Option Y) : Nat → α → Option Y
 | 0,_ => none
 | n + 1,x => step (loopN step n) x
def FUEL : Nat := 18446744073709551616
structure LoopS where
 n : Nat
 base : Nat
 head : Form
 exits : List ExitF
def zq1177 (ls : LoopS) (L : ls.head.T → Option (OutT ls.exits)) : LTr := fun _ base s e r =>
 bif decide (base = ls.base) then (isF ls.n ls.base ls.head s).bind fun x => (L x).bind fun y => goOn ls.n e r ls.exits y else none
theorem zq1178 {P : Program} {E : Env} (hE : EnvOk P E) {b : Code} (hl : zq8 P E b) (ls : LoopS) (step : (ls.head.T → Option (OutT ls.exits)) → ls.head.T → Option (OutT ls.exits)) (N : Nat)
  (h : ∀ rec x,ix E ls.base b (stF ls.n ls.head x) (fun s => (isF ls.n ls.base ls.head s).bind rec) (fun i s => outF ls.n ls.base ls.exits (some i) s) (fun s => outF ls.n ls.base ls.exits none s) = step rec x) :
  LOk P b (zq1177 ls (loopN step N)) := by
 intro W hG X base s e r x hx
 unfold zq1177 at hx
 cases hb : decide (base = ls.base)
 ·rw [hb] at hx; cases hx
 rw [hb] at hx
 simp only [decide_eq_true_eq] at hb
 subst hb
 obtain ⟨x0,hx0,hx⟩ := zc8.1 hx
 obtain ⟨y,hy,hgo⟩ := zc8.1 hx
 refine ⟨fun hbase ρ a w Q hs _ he hr => ?_⟩
 obtain ⟨ρ0,hs0,hag0,hle0⟩ := hs.form hx0
 refine wp_loop_ghost (fun k a' w' => ∃ z ρ',RelS W ρ' (stF ls.n ls.head z) a' w' ∧ loopN step k z = some y ∧ Agree ls.base ρ ρ' ∧ ls.base ≤ (stF ls.n ls.head z).m.length) N ⟨x0,ρ0,hs0,hy,hag0,hle0⟩ ?_
 rintro k a' w' ⟨z,ρ',hs',hz,hag,hle⟩
 cases k with
 | zero => cases hz
 | succ k =>
  have hz : step (loopN step k) z = some y := hz
  rw [← h (loopN step k) z] at hz
  refine (ix_ok ⟨hE,hG⟩ b _ _ _ _ hl hz).code hle ρ' a' w' _ hs' (fun ρ'' s'' a'' w'' hag' hle' hs'' hk => ?_) (fun i ρ'' s'' a'' w'' hag' hle' hs'' hk => ?_) (fun ρ'' s'' a'' w'' hag' hle' hs'' hk => ?_)
  ·obtain ⟨z',hz',hk⟩ := zc8.1 hk
   obtain ⟨ρ3,hs3,hag3,hle3⟩ := hs''.form hz'
   exact ⟨k,by omega,z',ρ3,hs3,hk,(hag.trans hag' (zc47 _)).trans hag3 (zc47 _),hle3⟩
  ·obtain ⟨f,u,hf,hgo'⟩ := zq1353 ls.exits (some i) s'' y hk hgo
   obtain ⟨ρ3,hs3,hag3,hle3⟩ := hs''.form hf
   exact he i ρ3 _ a'' w'' ((hag.trans hag' (zc47 _)).trans hag3 (zc47 _)) hle3 hs3 hgo'
  ·obtain ⟨f,u,hf,hgo'⟩ := zq1353 ls.exits none s'' y hk hgo
   obtain ⟨ρ3,hs3,hag3,hle3⟩ := hs''.form hf
   exact hr ρ3 _ a'' w'' ((hag.trans hag' (zc47 _)).trans hag3 (zc47 _)) hle3 hs3 hgo'
def lookJ : List (Nat × JoinS) → Nat → Option JoinS
 | [],_ => none
 | (n,a) :: r,f => bif Nat.beq f n then some a else lookJ r f
def look {α : Type 1} : List (Nat × α) → Nat → Option α
 | [],_ => none
 | (n,a) :: r,f => bif Nat.beq f n then some a else look r f
def mkEnv (T : Nat → TI) (B : Nat → Bool) (calls : List (Nat × Con)) (loops : List (Nat × LTr)) (conds : List (Nat × JoinS) := []) : Env := { T := T,B := B,call := look calls,loop := look loops,cond := lookJ conds }
def zq2 (P : Program) : List (Nat × Con) → Prop
 | [] => True
 | (f,g) :: r => TrOk P f g ∧ zq2 P r
theorem zq535 {P : Program} : zq2 P [] := trivial
theorem zq534 {P : Program} {f : Nat} {g : Con} {l : List (Nat × Con)} (h : TrOk P f g) (r : zq2 P l) : zq2 P ((f,g) :: l) := ⟨h,r⟩
theorem zq1175 {P : Program} : ∀ {l : List (Nat × Con)},zq2 P l → ∀ f g,look l f = some g → TrOk P f g
 | [],_,f,g,h => by cases h
 | (n,a) :: r,hc,f,g,h => by
  simp only [look] at h
  cases hb : Nat.beq f n
  ·rw [hb] at h; exact zq1175 hc.2 f g h
  ·rw [hb] at h
   have := Nat.eq_of_beq_eq_true hb
   subst this
   injection h with h
   subst h
   exact hc.1
theorem envOk {P : Program} {T : Nat → TI} {B : Nat → Bool} (hT : TOk P T) (hB : ∀ f,B f = true → zq6 P f) {calls : List (Nat × Con)} (hc : zq2 P calls) (loops : List (Nat × LTr)) (conds : List (Nat × JoinS) := []) : EnvOk P (mkEnv T B calls loops conds) :=
 ⟨hT,hB,zq1175 hc⟩
def zq662 (fn : Func) : Code := match fn.body with | some c => c | none => .skip
def LsOk (P : Program) (E : Env) : List Code → Prop
 | [] => True
 | b :: r => (∀ l,E.loop (regId b) = some l → LOk P b l) ∧ LsOk P E r
theorem lsNil {P : Program} {E : Env} : LsOk P E [] := trivial
theorem zq1186 {P : Program} {E : Env} {b : Code} {l : List Code} (h : ∀ t,E.loop (regId b) = some t → LOk P b t) (r : LsOk P E l) : LsOk P E (b :: l) := ⟨h,r⟩
theorem zq1188 {P : Program} {E : Env} : ∀ {l : List Code},LsOk P E l → ∀ b ∈ l,∀ t,E.loop (regId b) = some t → LOk P b t
 | [],_,b,hb,_,_ => by cases hb
 | c :: r,h,b,hb,t,ht => by
  rcases zc28.1 hb with rfl | hb
  ·exact h.1 t ht
  ·exact zq1188 h.2 b hb t ht
theorem zq1181 {P : Program} {E : Env} {c : Code} {l : List Code} (h : zq1180 c = l) (hl : LsOk P E l) : zq8 P E c := fun b hb => zq1188 hl b (by rw [← h]; exact hb)
theorem zq1283 {P : Program} {E : Env} {b : Code} {t : LTr} (h : E.loop (regId b) = some t) (ht : LOk P b t) : ∀ l,E.loop (regId b) = some l → LOk P b l := by
 intro l hl
 rw [h] at hl
 injection hl with hl
 subst hl
 exact ht
theorem zq511 {P : Program} {E : Env} {fn : Func} {l : List Code} (h : zq1180 (zq662 fn) = l) (hl : LsOk P E l) : ∀ c,fn.body = some c → zq8 P E c := by
 intro c hc
 refine zq1181 ?_ hl
 rw [← h]
 unfold zq662
 rw [hc]
def zq1259 (c : Code) (i : Nat) : Code := (zq1180 c).getD i .skip
def eqAd (a b : Ad) : Bool := beqB a.v6 b.v6 && (acmp .eql a.hi b.hi && acmp .eql a.lo b.lo)
def eqPf (a b : Pf) : Bool := beqB a.ad.v6 b.ad.v6 && (acmp .eql a.ad.hi b.ad.hi && (acmp .eql a.ad.lo b.ad.lo && acmp .eql a.bits b.bits))
def eqLs (a b : Ls) : Bool := beqB a.ad.v6 b.ad.v6 && (acmp .eql a.ad.hi b.ad.hi && (acmp .eql a.ad.lo b.ad.lo && (zq1794 .eql a.who b.who && acmp .eql a.upto b.upto)))
def eqOq (a b : Oq) : Bool := acmp .eql a.kind b.kind && (beqB a.pf.ad.v6 b.pf.ad.v6 && (acmp .eql a.pf.ad.hi b.pf.ad.hi && (acmp .eql a.pf.ad.lo b.pf.ad.lo && (acmp .eql a.pf.bits b.pf.bits && (beqB a.ad.v6 b.ad.v6 && (acmp .eql a.ad.hi b.ad.hi && (acmp .eql a.ad.lo b.ad.lo && (zq1794 .eql a.who b.who && (acmp .eql a.of_ b.of_ && acmp .eql a.n b.n)))))))))
def eqEn (a b : En) : Bool := acmp .eql a.num b.num && (acmp .eql a.epoch b.epoch && eqOq a.op b.op)
end Go.Ma
namespace Go.Ma
open Go Go.RowKit
def zq811 (rec : TypeId → List Value → Bool) (T : Nat → TI) : List (Nat × TypeId) → Nat → List Value → Bool
 | [],_,z => z.isEmpty
 | (o,ft) :: r,off,z => (o == off) && decide ((T ft).size ≤ z.length) && rec ft (z.take (T ft).size) && zq811 rec T r (off + (T ft).size) (z.drop (T ft).size)
def zq1618 (P : Program) (T : Nat → TI) : Nat → TypeId → List Value → Bool
 | 0,_,_ => false
 | d + 1,t,z => (T t).known && match (T t).kind,z with
  | .bool,[.bool _] => !(T t).agg
  | .int _,[.int _ _] => !(T t).agg
  | .str,[.string _] => !(T t).agg
  | .struct, z => (T t).agg && !P.stoodInHeld t && (P.fieldsOf t).toList.all (fun f => f.name != "_") && zq811 (zq1618 P T d) T (T t).fields 0 z
  | _,_ => false
def valL (ti : TI) (xs : List Value) : Value := if ti.agg then .agg xs.toArray else xs.headD Go.undef
theorem zq1840 : ∀ (z xs : List Value),zq1839 z xs = true → xs.length = z.length
 | [],xs,h => by rw [zq1837 h]
 | v :: r,[],h => by cases v <;> simp [zq1839] at h
 | v :: r,x :: r',h => by
  have h' : zq1839 r r' = true := by cases v <;> cases x <;> simp_all [zq1839]
  simp [zq1840 r r' h']
theorem zq1841 : ∀ {z xs : List Value} (n : Nat),zq1839 z xs = true → zq1839 (z.take n) (xs.take n) = true ∧ zq1839 (z.drop n) (xs.drop n) = true
 | _,_,0,h => ⟨by simp [zq1839],by simpa using h⟩
 | [],xs,n + 1,h => by rw [zq1837 h]; exact ⟨by simp [zq1839],by simp [zq1839]⟩
 | v :: r,xs,n + 1,h => by
  cases xs with
  | nil => cases v <;> simp [zq1839] at h
  | cons x r' =>
   cases v <;> cases x <;> simp only [zq1839,zc16,zc4] at h
   ·have := zq1841 n h
    exact ⟨by simpa [zq1839] using this.1,by simpa using this.2⟩
   ·have := zq1841 n h.2
    exact ⟨by simpa [zq1839,h.1] using this.1,by simpa using this.2⟩
   ·have := zq1841 n h
    exact ⟨by simpa [zq1839] using this.1,by simpa using this.2⟩
theorem zq1834 : ∀ (n : Nat) {z xs ys : List Value},zq1839 z xs = true → zq1839 z ys = true → veqL xs ys = (veqL (xs.take n) (ys.take n) && veqL (xs.drop n) (ys.drop n))
 | 0,_,_,_,_,_ => by simp [veqL]
 | n + 1,[],xs,ys,h,h' => by rw [zq1837 h,zq1837 h']; rfl
 | n + 1,v :: r,xs,ys,h,h' => by
  cases xs with
  | nil => cases v <;> simp [zq1839] at h
  | cons x rx =>
   cases ys with
   | nil => cases v <;> simp [zq1839] at h'
   | cons y ry =>
    cases v <;> cases x <;> simp only [zq1839,zc16,zc4] at h <;> cases y <;> simp only [zq1839,zc16,zc4] at h'
    ·simp [veqL,zq1834 n h h',Bool.and_assoc]
    ·simp [veqL,zq1834 n h.2 h'.2,Bool.and_assoc]
    ·simp [veqL,zq1834 n h h',Bool.and_assoc]
section
variable {P : Program} {T : Nat → TI} (hT : ∀ t,(T t).known = true → zq329 P t (T t))
include hT
theorem zq1596 {ft : TypeId} (hk : (T ft).known = true) (XS : List Value) (off : Nat) (h1 : (T ft).agg = false → ∃ v,((XS.drop off).take (T ft).size) = [v] ∧ (T ft).size = 1) (w : World) :
  (part ft XS.toArray off).run P w = .ok (valL (T ft) ((XS.drop off).take (T ft).size)) w := by
 simp only [part,Sem.run_bind,(hT ft hk).isAgg,Result.andThen_ok,valL]
 cases hagg : (T ft).agg
 ·obtain ⟨v,hv,hs⟩ := h1 hagg
  simp only [zc16,if_false,hv,List.headD_cons]
  rw [hs] at hv
  have : XS[off]? = some v := by
   have := congrArg (fun l => l[0]?) hv
   simpa using this
  simp [this]
 ·simp only [if_true,Sem.run_bind,(hT ft hk).sizeOf,Result.andThen_ok,Sem.run_pure]
  congr 2
  apply Array.ext'
  simp [Array.toList_extract,List.extract_eq_drop_take']
theorem zq753 {d k : Nat} (rec : ∀ t z,zq1618 P T d t z = true → ∀ (xs ys : List Value) (w : World),zq1839 z xs = true → zq1839 z ys = true → (Op.equalIn (d + k) t (valL (T t) xs) (valL (T t) ys)).run P w = .ok (veqL xs ys) w)
  (XS YS : List Value) : ∀ (fs : List Field) (off : Nat) (z : List Value) (w : World), fs.all (fun f => f.name != "_") = true → zq811 (zq1618 P T d) T (fs.map fun f => (f.offset, f.type)) off z = true →
   zq1839 z (XS.drop off) = true → zq1839 z (YS.drop off) = true → (Op.eqFields (d + k) XS.toArray YS.toArray fs).run P w = .ok (veqL (XS.drop off) (YS.drop off)) w
 | [],off,z,w,_,hf,hx,hy => by
  simp only [List.map_nil,zq811,List.isEmpty_iff] at hf
  subst hf
  rw [zq1837 hx,zq1837 hy]
  simp [Op.eqFields,veqL]
 | f :: r,off,z,w,hn,hf,hx,hy => by
  simp only [List.map_cons,zq811,zc4,beq_iff_eq,decide_eq_true_eq] at hf
  obtain ⟨⟨⟨rfl,hsz⟩,hsh⟩,hrest⟩ := hf
  simp only [List.all_cons,zc4,bne_iff_ne,ne_eq] at hn
  have hk : (T f.type).known = true := by
   cases d with
   | zero => simp [zq1618] at hsh
   | succ d => simp only [zq1618,zc4] at hsh; exact hsh.1
  obtain ⟨x1,x2⟩ := zq1841 (T f.type).size hx
  obtain ⟨y1,y2⟩ := zq1841 (T f.type).size hy
  have one : (T f.type).agg = false → (z.take (T f.type).size).length = 1 := by
   intro ha
   cases d with
   | zero => simp [zq1618] at hsh
   | succ d =>
    simp only [zq1618,zc4] at hsh
    have h2 := hsh.2
    split at h2
    ·rename_i h; rw [h]; rfl
    ·rename_i h; rw [h]; rfl
    ·rename_i h; rw [h]; rfl
    ·simp [ha] at h2
    ·cases h2
  have single : ∀ {l : List Value},zq1839 (z.take (T f.type).size) l = true → (T f.type).agg = false → ∃ v,l = [v] ∧ (T f.type).size = 1 := by
   intro l hl ha
   have h1 := zq1840 _ _ hl
   have h2 := one ha
   rw [h2] at h1
   match l,h1 with
   | [v],_ => exact ⟨v,rfl,by rw [List.length_take] at h2; omega⟩
  have px := zq1596 hT hk XS f.offset (single x1) w
  have py := zq1596 hT hk YS f.offset (single y1) w
  have hr := rec f.type _ hsh _ _ w x1 y1
  have ih := zq753 rec XS YS r (f.offset + (T f.type).size) _ w hn.2 hrest (by rw [← List.drop_drop]; exact x2) (by rw [← List.drop_drop]; exact y2)
  rw [← List.drop_drop,← List.drop_drop] at ih
  simp only [Op.eqFields,if_pos hn.1,Sem.run_bind,px,py,hr,Result.andThen_ok]
  rw [zq1834 (T f.type).size hx hy]
  cases hv : veqL (List.take (T f.type).size (List.drop f.offset XS)) (List.take (T f.type).size (List.drop f.offset YS))
  ·simp
  ·simpa using ih
theorem zq754 : ∀ (d k : Nat) (t : TypeId) (z : List Value),zq1618 P T d t z = true → ∀ (xs ys : List Value) (w : World),zq1839 z xs = true → zq1839 z ys = true →
  (Op.equalIn (d + k) t (valL (T t) xs) (valL (T t) ys)).run P w = .ok (veqL xs ys) w
 | 0,_,_,_,h,_,_,_,_,_ => by simp [zq1618] at h
 | d + 1,k,t,z,h,xs,ys,w,hx,hy => by
  simp only [zq1618,zc4] at h
  obtain ⟨hk,h⟩ := h
  obtain ⟨ti,ds,z0,hti,hd,hz,g1,g2,g3,g4,g5,g6,g7,g8,_⟩ := (hT t hk).ex
  have e : d + 1 + k = (d + k) + 1 := by omega
  rw [e]
  split at h
  ·rename_i hkd
   have := g5 hkd; subst this
   obtain ⟨a,r,rfl,hr⟩ := zq1835 hx
   obtain ⟨b,r',rfl,hr'⟩ := zq1835 hy
   rw [zq1837 hr,zq1837 hr']
   have ha : (T t).agg = false := by simpa using h
   simp only [valL,ha,zc16,if_false,List.headD_cons]
   rw [run_equalIn_bool' _ _ _ _ _ hd]
   simp [veqL]
  ·rename_i k0 _ _ hkd
   have := g4 _ hkd; subst this
   obtain ⟨a,r,rfl,hr⟩ := zq1836 hx
   obtain ⟨b,r',rfl,hr'⟩ := zq1836 hy
   rw [zq1837 hr,zq1837 hr']
   have ha : (T t).agg = false := by simpa using h
   simp only [valL,ha,zc16,if_false,List.headD_cons]
   rw [run_equalIn_int _ _ _ _ _ _ _ hd]
   simp [veqL]
  ·rename_i hkd
   have := g6 hkd; subst this
   obtain ⟨a,r,rfl,hr⟩ := zq1838 hx
   obtain ⟨b,r',rfl,hr'⟩ := zq1838 hy
   rw [zq1837 hr,zq1837 hr']
   have ha : (T t).agg = false := by simpa using h
   simp only [valL,ha,zc16,if_false,List.headD_cons]
   rw [run_equalIn_string _ _ _ _ _ hd]
   simp [veqL]
  ·rename_i hkd
   simp only [zc4,Bool.not_eq_true'] at h
   obtain ⟨⟨⟨ha,hst⟩,hnm⟩,hf⟩ := h
   obtain ⟨fs,rfl,hfs⟩ := g8 hkd
   have hfo : P.fieldsOf t = fs := by simp [Program.fieldsOf,hd]
   simp only [valL,ha,if_true]
   rw [run_equalIn_struct _ _ _ _ _ (by rw [hfo]; exact hd) hst,hfo]
   rw [hfo] at hnm
   rw [hfs] at hf
   have := zq753 hT (d := d) (k := k) (fun t z h => zq754 d k t z h) xs ys fs.toList 0 _ w hnm hf (by simpa using hx) (by simpa using hy)
   simpa using this
  ·cases h
theorem zq1796 (t : TypeId) (z : List Value) (h : zq1618 P T 8 t z = true) (hg : P.eqGuardType P.depth t = false) (ha : (T t).agg = true) : zq328 P t z := by
 intro xs ys x y w hx hy
 have h1 : (Op.equal t (.agg xs.toArray) (.agg ys.toArray)).run P w = .ok (veqL xs ys) w := by
  have := zq754 hT 8 9992 t z h xs ys w hx hy
  simp only [valL,ha,if_true] at this
  exact this
 constructor
 ·simp [eqGuard,binOp,hg,h1]
 ·simp [eqGuard,binOp,hg,h1]
end
end Go.Ma
namespace Go.Ma
open Go
section
variable {X Y : Type}
theorem br_ss (c : Bool) (x y : X) : br c (some x) (some y) = some (bif c then x else y) := by cases c <;> rfl
theorem br_sb (c x y : Bool) : br c (some x) (some y) = some (bif c then x else y) := br_ss c x y
theorem zq517 (a b : Option X) : br true a b = a := rfl
theorem zq515 (a b : Option X) : br false a b = b := rfl
theorem zq1562 (a : Option X) : req true a = a := rfl
theorem zq1560 {c : Bool} (h : c = true) (a : Option X) : req c a = a := by rw [h]; rfl
theorem zq513 (a : Option X) : both a a = a := by unfold both; exact if_pos rfl
theorem zq730 (n : Nat) (a : Option X) : dup n a = a := by
 induction n with
 | zero => rfl
 | succ n ih => rw [dup,ih,zq513]
theorem zq487 (x : X) (f : X → Option Y) : (some x).bind f = f x := rfl
end
def betw (x a b : Int) : Bool := decide (a ≤ x) && decide (x ≤ b)
theorem zq485 {x a b : Int} : betw x a b = true ↔ a ≤ x ∧ x ≤ b := by simp [betw]
theorem zq484 (x a b : Int) : (bif decide (x ≥ a) then decide (x ≤ b) else false) = betw x a b := by
 unfold betw
 cases decide (x ≥ a) <;> rfl
theorem zq904 {x : Int} (h : -9223372036854775808 ≤ x) (h' : x < 9223372036854775808) : i64ok x = true := zq903.2 ⟨h,h'⟩
theorem zq910 {i n : Int} (h : 0 ≤ i) (h' : i < n) : zq908 i n = true := by simp [zq908,h,h']
theorem zq1574 {a b : Int} (h0 : 0 ≤ a) (h1 : 0 ≤ b) (h : a + b ≤ 274877906944) : room a b = true := by
 unfold room
 rw [Nat.ble_eq]
 omega
section
variable {α : Type}
theorem zq1107 (l : List α) : 0 ≤ lenL l := by unfold lenL; omega
theorem zq872 (l : List α) (i : Nat) : geti l (i : Int) = l[i]? := by
 unfold geti
 rw [if_pos (by omega)]
 rfl
theorem zq871 {l : List α} {i : Nat} {a : α} (h : l[i]? = some a) : geti l (i : Int) = some a := (zq872 l i).trans h
end
theorem zq1176 {α Y : Type} (step : (α → Option Y) → α → Option Y) (n : Nat) (x : α) : loopN step (n + 1) x = step (loopN step n) x := rfl
theorem zq1179 {α Y : Type} {step : (α → Option Y) → α → Option Y} (mk : Nat → α) (n : Nat) (f : Nat → Option Y)
  (h : ∀ (rec : α → Option Y) i,i < n → rec (mk (i + 1)) = f (i + 1) → step rec (mk i) = f i) (hend : ∀ rec,step rec (mk n) = f n) : ∀ (N i : Nat),i ≤ n → n - i < N → loopN step N (mk i) = f i := by
 intro N
 induction N with
 | zero => intro i _ hx; omega
 | succ N ih =>
  intro i hi hx
  rw [zq1176]
  by_cases he : i = n
  ·subst he; exact hend _
  ·exact h _ i (by omega) (ih (i + 1) (by omega) (by omega))
theorem zq865 {n : Nat} (h : n < 18446744073709551616) : n < FUEL := by unfold FUEL; exact h
theorem zq1818 (b : ByteArray) (i : Nat) (r : List UInt8) : ByteArray.toList.loop b i r = r.reverse ++ b.data.toList.drop i := by
 rw [ByteArray.toList.loop]
 split
 ·rename_i h
  rw [zq1818 b (i + 1)]
  have h' : i < b.data.toList.length := by simpa using h
  rw [List.drop_eq_getElem_cons h',List.reverse_cons,zc46]
  have e : b.get! i = b.data.toList[i] := by
   simp only [ByteArray.get!,Array.getElem_toList]
   exact getElem!_pos b.data i (by simpa using h)
  rw [e]
  rfl
 ·rename_i h
  rw [List.drop_of_length_le (by simpa using h),List.append_nil]
 termination_by b.size - i
theorem zq1817 (b : ByteArray) : b.toList = b.data.toList := by
 rw [ByteArray.toList,zq1818]; rfl
theorem zq483 (x y : ByteArray) : (x.toList == y.toList) = decide (x = y) := by
 have e : (x.toList = y.toList) = (x = y) := by
  rw [zq1817,zq1817]
  refine propext ⟨fun h => ByteArray.ext (Array.toList_inj.1 h),fun h => by rw [h]⟩
 simp only [← e]
 exact Bool.eq_iff_iff.2 (by simp)
theorem zq1795 (x y : ByteArray) : zq1794 .eql x y = decide (x = y) := zq483 x y
theorem zq1194 {n : Nat} (h : n ≤ maxLen) : n < 9223372036854775808 := Nat.lt_of_le_of_lt h (by unfold maxLen; decide)
theorem zq528 {s : ByteArray} {i : Nat} {b : UInt8} (h : s.data.toList[i]? = some b) : zq527 s (i : Int) = (b.toNat : Int) := by
 have h' : s[i]? = some b := by
  rw [zc25] at h
  obtain ⟨hl,he⟩ := zc27.1 h
  rw [getElem?_pos s i hl]
  exact congrArg some he
 unfold zq527
 simp only [zc41]
 rw [h']
theorem zq682 (s : ByteArray) : s.data.toList.length = s.size := by simp
theorem zq727 {α : Type} (p : α → Bool) {l : List α} {i : Nat} {a : α} (h : l[i]? = some a) : (l.drop i).all p = (p a && (l.drop (i + 1)).all p) := by
 obtain ⟨hl,he⟩ := zc1.1 h
 rw [List.drop_eq_getElem_cons hl,he,List.all_cons]
theorem zq728 {α : Type} {l : List α} {i : Nat} {a : α} (h : l[i]? = some a) : l.drop i = a :: l.drop (i + 1) := by
 obtain ⟨hl,he⟩ := zc1.1 h
 rw [List.drop_eq_getElem_cons hl,he]
end Go.Ma
namespace Go.Ma
open Go
def Ad.wf (a : Ad) : Prop := 0 ≤ a.hi ∧ a.hi < 18446744073709551616 ∧ 0 ≤ a.lo ∧ a.lo < 18446744073709551616
theorem Ad.In.wf {a : Ad} (h : a.In) : a.wf := ⟨h.1.1,h.1.2,h.2.1,h.2.2⟩
def chkA (a : Ad) : Int := if a.v6 = false ∧ (a.hi ≠ 0 ∨ 4294967296 ≤ a.lo) then 3 else 0
def wid (v6 : Bool) : Nat := if v6 then 128 else 32
def Ad.num (a : Ad) : Nat := a.hi.toNat * 18446744073709551616 + a.lo.toNat
def ofNum (v6 : Bool) (n : Nat) : Ad := ⟨v6,(n / 18446744073709551616 : Nat),(n % 18446744073709551616 : Nat)⟩
def Ad.right (a : Ad) : Prop := a.wf ∧ chkA a = 0
theorem wrap_i64 {n : Int} (h : -9223372036854775808 ≤ n) (h' : n < 9223372036854775808) : IntKind.i64.wrap n = n := IntWalk.i64_in n (by omega)
theorem zq1853 {n : Int} (h : 0 ≤ n) (h' : n < 18446744073709551616) : IntKind.u64.wrap n = n := by
 simp only [IntKind.wrap,IntKind.bits,IntKind.signed,Bool.false_and]
 simp
 omega
theorem zq1854 (n : Int) : IntKind.u64.wrap n = n % 18446744073709551616 := by
 simp only [IntKind.wrap,IntKind.bits,IntKind.signed,Bool.false_and]
 simp
theorem zq1573 (a : Ad) (h : a.right) : a.num < 2 ^ wid a.v6 := by
 obtain ⟨⟨h1,h2,h3,h4⟩,hc⟩ := h
 unfold chkA at hc
 unfold Ad.num wid
 cases hv : a.v6
 ·simp only [hv] at hc ⊢
  split at hc
  ·cases hc
  ·rename_i hn
   simp only [zc16,if_false]
   simp only [true_and,not_or,Decidable.not_not] at hn
   omega
 ·simp only [if_true]
  omega
theorem zq1272 (a : Ad) (h : a.wf) : ofNum a.v6 a.num = a := by
 obtain ⟨h1,h2,h3,h4⟩ := h
 unfold ofNum Ad.num
 cases a with
 | mk v hi lo =>
  simp only at h1 h2 h3 h4
  simp only [Ad.mk.injEq,true_and]
  constructor <;> omega
theorem zq1262 (v6 : Bool) (n : Nat) : (ofNum v6 n).num = n := by
 unfold ofNum Ad.num
 simp only [zc41]
 omega
theorem zq1260 {a b : Ad} (ha : a.wf) (hb : b.wf) (hv : a.v6 = b.v6) (h : a.num = b.num) : a = b := by
 rw [← zq1272 a ha,← zq1272 b hb,hv,h]
theorem zq1406 {r : Nat} (h : 64 ≤ r) : 2 ^ r = 2 ^ (r - 64) * 18446744073709551616 := by
 have : r = (r - 64) + 64 := by omega
 rw [this,Nat.pow_add]
 simp
theorem zq1405 {r : Nat} (h : r < 64) : 2 ^ r ≤ 9223372036854775808 := by
 have := Nat.pow_le_pow_right (n := 2) (by omega) (show r ≤ 63 by omega)
 simpa using this
theorem zq1202 {r : Nat} (h : r < 64) : (2 ^ r - 1) / 18446744073709551616 = 0 ∧ (2 ^ r - 1) % 18446744073709551616 = 2 ^ r - 1 := by
 have := zq1405 h
 constructor <;> omega
theorem zq1199 {r : Nat} (h : 64 ≤ r) : (2 ^ r - 1) / 18446744073709551616 = 2 ^ (r - 64) - 1 ∧ (2 ^ r - 1) % 18446744073709551616 = 18446744073709551615 := by
 have h1 := zq1406 h
 have h2 := Nat.two_pow_pos (r - 64)
 generalize 2 ^ (r - 64) = q at h1 h2 ⊢
 rw [h1]
 constructor <;> omega
theorem zq1627 {r : Nat} (h : r < 64) : aop .sub .u64 (aop .shl .u64 1 (r : Int)) 1 = ((2 ^ r - 1 : Nat) : Int) := by
 have h1 := zq1405 h
 have h2 := Nat.two_pow_pos r
 have e1 : aop .shl .u64 1 (r : Int) = ((2 ^ r : Nat) : Int) := by
  simp only [aop,IntKind.bits,zc41,Nat.min_eq_left (show r ≤ 64 by omega)]
  rw [zq1854]
  have hc : (2 : Int) ^ r = ((2 ^ r : Nat) : Int) := by push_cast; rfl
  rw [Int.one_mul,hc]
  generalize 2 ^ r = q at h1 h2 ⊢
  omega
 rw [e1]
 simp only [aop]
 rw [zq1853 (by omega) (by omega)]
 omega
def cutN (n k : Nat) : Nat := n / 2 ^ k * 2 ^ k
theorem zq442 (x : Nat) (k : Nat) (hx : x < 18446744073709551616) (hk : k ≤ 64) : aop .andNot .u64 (x : Int) ((2 ^ k - 1 : Nat) : Int) = ((x / 2 ^ k * 2 ^ k : Nat) : Int) := by
 have hp : 2 ^ k ≤ 18446744073709551616 := by
  have := Nat.pow_le_pow_right (n := 2) (by omega) hk
  simpa using this
 have hpos := Nat.two_pow_pos k
 have e1 : (BitVec.ofInt 64 (x : Int)).toNat = x := by
  rw [BitVec.ofInt_natCast,BitVec.toNat_ofNat]
  exact Nat.mod_eq_of_lt (by simpa using hx)
 have e2 : (BitVec.ofInt 64 ((2 ^ k - 1 : Nat) : Int)).toNat = 2 ^ k - 1 := by
  rw [BitVec.ofInt_natCast,BitVec.toNat_ofNat]
  exact Nat.mod_eq_of_lt (by simp only [Nat.reducePow]; omega)
 have e3 : (BitVec.ofInt 64 (x : Int) &&& ~~~ BitVec.ofInt 64 ((2 ^ k - 1 : Nat) : Int)).toNat = x / 2 ^ k * 2 ^ k := by
  rw [BitVec.toNat_and,BitVec.toNat_not,e1,e2]
  apply Nat.eq_of_testBit_eq
  intro i
  rw [Nat.testBit_and,show 2 ^ 64 - 1 - (2 ^ k - 1) = 2 ^ 64 - ((2 ^ k - 1) + 1) by omega,Nat.testBit_two_pow_sub_succ (by simp only [Nat.reducePow]; omega),Nat.testBit_two_pow_sub_one,Nat.testBit_mul_two_pow,Nat.testBit_div_two_pow]
  by_cases hi : k ≤ i
  ·rw [Nat.sub_add_cancel hi]
   by_cases h64 : i < 64
   ·simp [hi,h64,Nat.not_lt.2 hi]
   ·have : x.testBit i = false := Nat.testBit_lt_two_pow (Nat.lt_of_lt_of_le (by simpa using hx : x < 2 ^ 64) (Nat.pow_le_pow_right (by omega) (by omega)))
    simp [this]
  ·simp [hi,Nat.lt_of_not_le hi]
 simp only [aop]
 show IntKind.u64.wrap ((BitVec.ofInt 64 (x : Int) &&& ~~~ BitVec.ofInt 64 ((2 ^ k - 1 : Nat) : Int)).toNat : Int) = _
 rw [e3]
 have : x / 2 ^ k * 2 ^ k ≤ x := Nat.div_mul_le_self x _
 exact zq1853 (by omega) (by omega)
theorem zq1201 (k : Nat) : (2 ^ k - 1) / 18446744073709551616 = 2 ^ (k - 64) - 1 ∧ (2 ^ k - 1) % 18446744073709551616 = 2 ^ (min k 64) - 1 := by
 by_cases h : k < 64
 ·obtain ⟨h1,h2⟩ := zq1202 h
  rw [show k - 64 = 0 by omega,Nat.min_eq_left (by omega)]
  exact ⟨h1,h2⟩
 ·obtain ⟨h1,h2⟩ := zq1199 (r := k) (by omega)
  rw [Nat.min_eq_right (by omega)]
  exact ⟨h1,h2⟩
theorem zq681 (Q hi lo k : Nat) (hQ : Q = 2 ^ 64) (hlo : lo < Q) : (hi * Q + lo) / 2 ^ k * 2 ^ k = (hi / 2 ^ (k - 64) * 2 ^ (k - 64)) * Q + lo / 2 ^ (min k 64) * 2 ^ (min k 64) := by
 by_cases h : k ≤ 64
 ·have e0 : k - 64 = 0 := by omega
  rw [e0,Nat.min_eq_left h]
  have e : Q = 2 ^ k * 2 ^ (64 - k) := by
   rw [hQ,← Nat.pow_add,show k + (64 - k) = 64 by omega]
  have hpos := Nat.two_pow_pos k
  have e2 : hi * Q + lo = 2 ^ k * (hi * 2 ^ (64 - k)) + lo := by rw [e,Nat.mul_left_comm]
  rw [e2,Nat.mul_add_div hpos,Nat.add_mul,Nat.pow_zero,Nat.div_one,Nat.mul_one,e]
  have e3 : hi * 2 ^ (64 - k) * 2 ^ k = hi * (2 ^ k * 2 ^ (64 - k)) := by rw [Nat.mul_assoc,Nat.mul_comm (2 ^ (64 - k))]
  rw [e3]
 ·have e : 2 ^ k = 2 ^ (k - 64) * Q := by
   rw [hQ,← Nat.pow_add,show k - 64 + 64 = k by omega]
  have hpos := Nat.two_pow_pos (k - 64)
  have hQ0 : 0 < Q := by omega
  rw [Nat.min_eq_right (by omega),← hQ,e,Nat.mul_comm (2 ^ (k - 64)) Q,← Nat.div_div_eq_div_mul]
  have e1 : (hi * Q + lo) / Q = hi := by rw [Nat.mul_comm,Nat.mul_add_div hQ0,Nat.div_eq_of_lt hlo,Nat.add_zero]
  rw [e1,Nat.div_eq_of_lt hlo,Nat.zero_mul,Nat.add_zero,Nat.mul_comm Q,Nat.mul_assoc]
theorem zq680 (hi lo k : Nat) (hlo : lo < 18446744073709551616) : cutN (hi * 18446744073709551616 + lo) k = (hi / 2 ^ (k - 64) * 2 ^ (k - 64)) * 18446744073709551616 + lo / 2 ^ (min k 64) * 2 ^ (min k 64) :=
 zq681 18446744073709551616 hi lo k (by decide) hlo
def cutA (a : Ad) (bits : Int) : Ad := ofNum a.v6 (cutN a.num (wid a.v6 - bits.toNat))
def maskA (v6 : Bool) (bits : Int) : Ad := ofNum v6 (2 ^ (wid v6 - bits.toNat) - 1)
theorem zq677 (a : Ad) (h : a.wf) (bits : Int) : cutA a bits =
  ⟨a.v6,((a.hi.toNat / 2 ^ (wid a.v6 - bits.toNat - 64) * 2 ^ (wid a.v6 - bits.toNat - 64) : Nat) : Int),((a.lo.toNat / 2 ^ (min (wid a.v6 - bits.toNat) 64) * 2 ^ (min (wid a.v6 - bits.toNat) 64) : Nat) : Int)⟩ := by
 obtain ⟨h1,h2,h3,h4⟩ := h
 unfold cutA Ad.num
 rw [zq680 _ _ _ (by omega)]
 have hlt : a.lo.toNat / 2 ^ (min (wid a.v6 - bits.toNat) 64) * 2 ^ (min (wid a.v6 - bits.toNat) 64) < 18446744073709551616 := Nat.lt_of_le_of_lt (Nat.div_mul_le_self _ _) (by omega)
 generalize a.lo.toNat / 2 ^ (min (wid a.v6 - bits.toNat) 64) * 2 ^ (min (wid a.v6 - bits.toNat) 64) = lo at hlt ⊢
 generalize a.hi.toNat / 2 ^ (wid a.v6 - bits.toNat - 64) * 2 ^ (wid a.v6 - bits.toNat - 64) = hi
 unfold ofNum
 simp only [Ad.mk.injEq,true_and]
 constructor <;> omega
theorem zq1198 (v6 : Bool) (bits : Int) : maskA v6 bits = ⟨v6,((2 ^ (wid v6 - bits.toNat - 64) - 1 : Nat) : Int),((2 ^ (min (wid v6 - bits.toNat) 64) - 1 : Nat) : Int)⟩ := by
 unfold maskA ofNum
 rw [(zq1201 _).1,(zq1201 _).2]
def chkP (p : Pf) : Int :=
 if chkA p.ad ≠ 0 then chkA p.ad else if p.bits < 0 ∨ p.bits > wid p.ad.v6 then 3 else if cutA p.ad p.bits ≠ p.ad then 4 else 0
theorem zq566 {p : Pf} (h : chkP p = 0) : 0 ≤ p.bits ∧ p.bits ≤ (wid p.ad.v6 : Nat) := by
 unfold chkP at h
 split at h
 ·rename_i h1; exact absurd h h1
 split at h
 ·cases h
 ·rename_i h1; simp only [not_or] at h1; omega
def ordI (x y : Int) : Int := if x < y then -1 else if x > y then 1 else 0
def ordA (a b : Ad) : Int := if a.v6 ≠ b.v6 ∧ b.v6 then -1 else if a.v6 ≠ b.v6 then 1 else if a.hi ≠ b.hi then ordI a.hi b.hi else ordI a.lo b.lo
def ordP (p q : Pf) : Int := if ordA p.ad q.ad ≠ 0 then ordA p.ad q.ad else p.bits - q.bits
def holds (p : Pf) (a : Ad) : Bool := p.ad.v6 == a.v6 && decide (cutA a p.bits = p.ad)
def over (p q : Pf) : Bool := decide (p.bits ≤ q.bits) && holds p q.ad
def bitV (n i : Nat) : UInt8 := if n.testBit i then 49 else 48
def zq496 (n top cnt : Nat) : List UInt8 := (List.range cnt).map fun j => bitV n (top - j)
theorem zq501 (n top c : Nat) : zq496 n top (c + 1) = zq496 n top c ++ [bitV n (top - c)] := by
 simp [zq496,List.range_succ]
theorem zq499 (n top c : Nat) : (zq496 n top c).length = c := by simp [zq496]
def bitsA (a : Ad) : List UInt8 := if a.v6 then zq496 a.hi.toNat 63 64 ++ zq496 a.lo.toNat 63 64 else (zq496 a.hi.toNat 63 64 ++ zq496 a.lo.toNat 63 64).drop 96
def zq1264 (l : List UInt8) : ByteArray := ⟨l.toArray⟩
theorem zq492 (x i : Int) (hx : 0 ≤ x) (hx' : x < 18446744073709551616) (hi : 0 ≤ i) (hi' : i ≤ 63) :
  IntKind.u8.wrap (aop .add .u64 48 (aop .rem .u64 (aop .shr .u64 x i) 2)) = ((bitV x.toNat i.toNat).toNat : Int) := by
 obtain ⟨n,rfl⟩ := Int.eq_ofNat_of_zero_le hx
 obtain ⟨k,rfl⟩ := Int.eq_ofNat_of_zero_le hi
 have e1 : aop .shr .u64 (n : Int) (k : Int) = ((n / 2 ^ k : Nat) : Int) := by
  simp only [aop,zc41,IntKind.bits,Nat.min_eq_left (show k ≤ 64 by omega)]
  rw [show ((2 : Int) ^ k) = ((2 ^ k : Nat) : Int) by push_cast; rfl,Int.fdiv_eq_ediv_of_nonneg _ (Int.natCast_nonneg _)]
  rfl
 have e2 : aop .rem .u64 ((n / 2 ^ k : Nat) : Int) 2 = ((n / 2 ^ k % 2 : Nat) : Int) := by
  simp only [aop]
  rw [Int.tmod_eq_emod_of_nonneg (Int.natCast_nonneg _)]
  rfl
 rw [e1,e2]
 have hb : n.testBit k = decide (n / 2 ^ k % 2 = 1) := Nat.testBit_eq_decide_div_mod_eq ..
 simp only [zc41,bitV,hb]
 have hlt : n / 2 ^ k % 2 < 2 := Nat.mod_lt _ (by omega)
 generalize n / 2 ^ k % 2 = q at hlt ⊢
 match q,hlt with
 | 0,_ => decide
 | 1,_ => decide
end Go.Ma
namespace Go.Ma
open Go Go.RowKit
theorem RelM.replaced {W : World} {ρ : Nat → Value} {m : Mem} {w w' : World} (hm : RelM W ρ m w) {j : Nat} {c : C} {bt : TypeId} (hj : m[j]? = some (.row c bt true)) {v' : Value} {k : K} {l : List k.T} {e : TypeId}
  (hown' : w'.ownsRow W.heap.size e k.sz v' l.length (l.flatMap fun a => denL ρ (k.enc a))) (hgb : w.grownBy w' (ρ j).ownBlock) (hblk : ∀ b,v'.ownBlock = some b → (ρ j).ownBlock = some b ∨ w.heap.size ≤ b) :
  RelM W (upd ρ m.length v') (m.set j (.dead none) ++ [.row (.ty k l) e true]) w' ∧ v' = den (upd ρ m.length v') (.row m.length) := by
 have hv' : ∃ A' c',v' = .slice A' l.length c' := by
  rcases hown'.2 with ⟨h,h0⟩ | ⟨g,cap,cur,h,_⟩
  ·exact ⟨none,0,by rw [h,h0]⟩
  ·exact ⟨_,_,h⟩
 have hvb : ∀ b,b ∈ zq1832 v' → (ρ j).ownBlock = some b ∨ w.heap.size ≤ b := by
  obtain ⟨A',c',rfl⟩ := hv'
  intro b hb
  exact hblk b (by cases A' <;> simp_all [zq1832,zq1831,Value.ownBlock])
 have hag := zq1828 ρ m.length v'
 have hkl : (m.set j (.dead none)).length = m.length := by simp
 have hkill : ∀ (i : Nat) (o : Obj),(m.set j (.dead none))[i]? = some o → (o = .dead none ∧ j = i) ∨ (j ≠ i ∧ m[i]? = some o) := by
  intro i o h
  have := zq977 (j := some j) h
  simpa using this
 have hjow : ∀ b,(ρ j).ownBlock = some b → b ∈ zq1832 (ρ j) := by
  intro b hb
  refine zq1208 ?_
  revert hb
  cases ρ j <;> simp [Value.ownBlock,zq1831]
  rename_i A1 _ _
  cases A1 <;> simp
 have hold : ∀ (i : Nat) (ob : Obj),(m.set j (.dead none))[i]? = some ob → (ob matches .dead _) = false → m[i]? = some ob ∧ ∀ b,b ∈ ob.blocks (ρ i) → (ρ j).ownBlock ≠ some b := by
  intro i ob hi hlive
  rcases hkill i ob hi with ⟨rfl,_⟩ | ⟨hne,hmi⟩
  ·cases hlive
  ·exact ⟨hmi,fun b hb hown => hm.sep j i _ ob hne hj hmi rfl hlive b (hjow b hown) hb⟩
 have hkeep : ∀ (i : Nat) (ob : Obj),(m.set j (.dead none))[i]? = some ob → ObjIs W w' ρ (ρ i) ob := by
  intro i ob hi
  cases hlive : ob.deadB
  ·obtain ⟨hmi,hne⟩ := hold i ob hi hlive
   exact (hm.obj i ob hmi).keep (fun b hb hlt => hgb.block b hlt (fun e => hne b hb e.symm)) hgb.size
  ·rcases hkill i ob hi with ⟨rfl,_⟩ | ⟨_,hmi⟩
   ·trivial
   ·exact (hm.obj i ob hmi).still hlive
 have hbase : ∀ b,(ρ j).ownBlock = some b → W.heap.size ≤ b := by
  intro b hb
  obtain ⟨_,_,hown⟩ := hm.obj j _ hj
  rw [if_pos rfl] at hown
  rcases hown.2 with ⟨h,_⟩ | ⟨g,cp,cur,h,h2,_⟩
  ·rw [h] at hb; cases hb
  ·rw [h] at hb
   simp only [Value.ownBlock,zc2] at hb
   omega
 have hbelow : Below W.heap.size W w' := hm.below.grown hgb hm.below.size hbase
 have hlast : ∀ (i : Nat) (ob : Obj),(m.set j (.dead none) ++ [.row (.ty k l) e true])[i]? = some ob →
   (i < m.length ∧ (m.set j (.dead none))[i]? = some ob) ∨ (i = m.length ∧ ob = .row (.ty k l) e true) := by
  intro i ob hi
  rw [zc29] at hi
  split at hi
  ·rename_i hlt; rw [hkl] at hlt; exact .inl ⟨hlt,hi⟩
  ·rename_i hge
   have hx := zc1.1 hi
   obtain ⟨hx,hy⟩ := hx
   simp only [zc21,zc32,hkl] at hx hge
   have hie : i = m.length := by omega
   subst hie
   simp only [hkl,Nat.sub_self,zc13,zc2] at hi
   exact .inr ⟨rfl,hi.symm⟩
 have hden : ∀ ρ',(C.ty k l).den ρ' = l.flatMap fun a => denL ρ (k.enc a) := fun ρ' => by
  simp only [C.den]
  congr 1
  funext a
  exact zq709 ρ ρ' k a
 refine ⟨⟨hbelow,fun i ob hi => ?_,fun i q o1 o2 hik hi hk' hmut hlive b hb hb' => ?_,fun i ob hi => ?_⟩,?_⟩
 ·rcases hlast i ob hi with ⟨hil,hi⟩ | ⟨rfl,rfl⟩
  ·rw [hag i hil]
   refine (hkeep i ob hi).agree hag ?_
   rcases hkill i ob hi with ⟨rfl,_⟩ | ⟨_,hmi⟩
   ·rfl
   ·exact hm.lt i ob hmi
  ·rw [zq1830]
   refine ⟨(zq1801 k : 0 < k.sz),?_,?_⟩
   ·intro u hu
    rw [hden] at hu
    simp only [List.mem_flatMap,zq711,List.mem_map] at hu
    obtain ⟨x,_,c,hc,rfl⟩ := hu
    exact zq1282 (zq747 k x c hc)
   ·rw [if_pos rfl,hden]
    exact hown'
 ·rcases hlast i o1 hi with ⟨hil,hi⟩ | ⟨rfl,rfl⟩ <;> rcases hlast q o2 hk' with ⟨hkl',hk'⟩ | ⟨rfl,rfl⟩
  ·rw [hag i hil] at hb
   rw [hag q hkl'] at hb'
   have hl1 := zq1227 hmut
   obtain ⟨hmi,_⟩ := hold i o1 hi hl1
   obtain ⟨hmk,_⟩ := hold q o2 hk' hlive
   exact hm.sep i q o1 o2 hik hmi hmk hmut hlive b hb hb'
  ·rw [hag i hil] at hb
   rw [zq1830] at hb'
   have hl1 := zq1227 hmut
   obtain ⟨hmi,hne⟩ := hold i o1 hi hl1
   rw [← zq506 hmut] at hb
   rcases hvb b (zq508 hb') with h | h
   ·exact hne b hb h
   ·have := ObjIs.lt_heap hb hl1 (hm.obj i o1 hmi)
    omega
  ·rw [hag q hkl'] at hb'
   rw [zq1830] at hb
   obtain ⟨hmk,hne⟩ := hold q o2 hk' hlive
   rcases hvb b hb with h | h
   ·exact hne b hb' h
   ·have := ObjIs.lt_heap hb' hlive (hm.obj q o2 hmk)
    omega
  ·exact hik rfl
 ·simp only [zc24,hkl,zc21,zc32]
  rcases hlast i ob hi with ⟨hil,hi⟩ | ⟨rfl,rfl⟩
  ·rcases hkill i ob hi with ⟨rfl,_⟩ | ⟨_,hmi⟩
   ·rfl
   ·exact Obj.lt_mono (by omega) ob (hm.lt i ob hmi)
  ·rfl
 ·obtain ⟨A',c',rfl⟩ := hv'
  simp [den,zq1830,zq1637]
def castK {k k' : K} (h : k = k') (x : k.T) : k'.T := h ▸ x
def zq930 (k : K) (e : TypeId) (args : List SV) (m : Mem) : Option (Nat × List k.T × Int × k.T) :=
 match args with
 | [.row j,.i .i64 i,.row jv] =>
  match m[j]?,m[jv]? with
  | some (.row (.ty k1 l) bt true),some (.row (.ty k2 [x]) bt2 true) =>
   if h1 : k1 = k then if h2 : k2 = k then if bt == e && bt2 == e && !(j == jv) then some (j,castL h1 l,i,castK h2 x) else none else none else none
  | _,_ => none
 | _ => none
def zq931 (k : K) (e : TypeId) : Con :=
 {tr := fun _ args m kk => match zq930 k e args m with
   | some (j,l,i,x) => req (decide (0 ≤ i) && decide (i ≤ lenL l) && room (lenL l) 1) (kk (.row m.length) (m.set j (.dead none) ++ [.row (.ty k (insL l i x)) e true]))
   | none => none
  q := false,law := false,det := true }
theorem zq954 {P : Program} {f : FuncId} (k : K) (e : TypeId)
  (h : ∀ (base : Nat) (w : World) (v u : Value) (n i : Nat) (cs xs : List Value),w.ownsRow base e k.sz v n cs → w.ownsRow base e k.sz u 1 xs → (∀ b,v.ownBlock = some b → u.ownBlock ≠ some b) → (∀ x ∈ cs,oneC x = true) → (∀ x ∈ xs,oneC x = true) → base ≤ w.heap.size → i ≤ n → n + 1 ≤ 274877906944 →
   Calls P f #[v,.int .i64 (i : Int),u] w fun r w' => ∃ v',r = .returned v' ∧ w'.ownsRow base e k.sz v' (n + 1) (cs.take (i * k.sz) ++ xs ++ cs.drop (i * k.sz)) ∧ w.grownBy w' v.ownBlock ∧ (∀ b,v'.ownBlock = some b → v.ownBlock = some b ∨ w.heap.size ≤ b)) : TrOk P f (zq931 k e) := by
 have inv : ∀ {X : Type} {args : List SV} {m : Mem} {kk : SV → Mem → Option X} {x : X},(zq931 k e).tr X args m kk = some x → ∃ (j jv : Nat) (i : Int) (l : List k.T) (y : k.T),args = [.row j,.i .i64 i,.row jv] ∧ m[j]? = some (.row (.ty k l) e true) ∧ m[jv]? = some (.row (.ty k [y]) e true) ∧ j ≠ jv ∧ 0 ≤ i ∧ i ≤ lenL l ∧ room (lenL l) 1 = true ∧
   zq930 k e args m = some (j,l,i,y) ∧ kk (.row m.length) (m.set j (.dead none) ++ [.row (.ty k (insL l i y)) e true]) = some x := by
  intro X args m kk x hk
  simp only [zq931] at hk
  split at hk
  rotate_left
  ·cases hk
  rename_i j l i y ha
  obtain ⟨h1,h2⟩ := zq1561 hk
  simp only [zc4,decide_eq_true_eq] at h1
  have ha0 := ha
  unfold zq930 at ha
  split at ha
  rotate_left
  ·cases ha
  split at ha
  rotate_left
  ·cases ha
  rename_i j1 i1 jv1 _ _ k1 l1 bt k2 x2 bt2 hj hjv
  split at ha
  rotate_left
  ·cases ha
  rename_i e1
  split at ha
  rotate_left
  ·cases ha
  rename_i e2
  split at ha
  rotate_left
  ·cases ha
  rename_i hc
  simp only [zc4,beq_iff_eq,Bool.not_eq_true',beq_eq_false_iff_ne] at hc
  obtain ⟨⟨rfl,rfl⟩,hne⟩ := hc
  subst e1
  subst e2
  simp only [zc2,zc11] at ha
  obtain ⟨rfl,rfl,rfl,rfl⟩ := ha
  exact ⟨_,_,_,_,_,rfl,hj,hjv,hne,h1.1.1,h1.1.2,h1.2,ha0,h2⟩
 refine ⟨fun W _ X args m kk x hk _ => ⟨fun _ ρ w hm => ?_⟩,(fun hq => by cases hq),fun _ X args m kk x hk => ?_⟩
 ·obtain ⟨j,jv,i,l,y,rfl,hj,hjv,hne,h0,h1,hroom,_,hk⟩ := inv hk
  have ho1 := hm.obj j _ hj
  have ho2 := hm.obj jv _ hjv
  obtain ⟨_,hc1,ho1⟩ := ho1
  obtain ⟨_,hc2,ho2⟩ := ho2
  rw [if_pos rfl] at ho1 ho2
  have hr1 : ∃ A cap,ρ j = .slice A l.length cap := by
   obtain ⟨_,A,cap,hρ,_⟩ := RelM.row hm hj
   exact ⟨A,cap,hρ⟩
  have hr2 : ∃ A cap,ρ jv = .slice A 1 cap := by
   obtain ⟨_,A,cap,hρ,_⟩ := RelM.row hm hjv
   exact ⟨A,cap,hρ⟩
  have hd1 : den ρ (.row j) = ρ j := by obtain ⟨A,cap,hρ⟩ := hr1; simp only [den,hρ,zq1637]
  have hd2 : den ρ (.row jv) = ρ jv := by obtain ⟨A,cap,hρ⟩ := hr2; simp only [den,hρ,zq1637]
  have e1 : ((i.toNat : Nat) : Int) = i := Int.toNat_of_nonneg h0
  have hil : i.toNat ≤ l.length := by unfold lenL at h1; omega
  have hro : l.length + 1 ≤ 274877906944 := by
   have := Nat.le_of_ble_eq_true hroom
   simpa [lenL] using this
  have hjow : ∀ (q : Nat) (b : Nat),(ρ q).ownBlock = some b → b ∈ zq1832 (ρ q) := by
   intro q b hb
   refine zq1208 ?_
   revert hb
   cases ρ q <;> simp [Value.ownBlock,zq1831]
   rename_i A1 _ _
   cases A1 <;> simp
  have := h W.heap.size w (ρ j) (ρ jv) l.length i.toNat _ _ ho1 ho2 (fun b hb hb' => hm.sep j jv _ _ hne hj hjv rfl rfl b (hjow j b hb) (by rw [zq506 rfl]; exact hjow jv b hb')) hc1 hc2 hm.below.size hil hro
  rw [e1] at this
  have ed : (denL ρ [.row j,.i .i64 i,.row jv]).toArray = #[ρ j,.int .i64 i,ρ jv] := by
   show #[den ρ (.row j),.int .i64 i,den ρ (.row jv)] = _
   rw [hd1,hd2]
  rw [ed]
  refine this.mono ?_
  rintro r w' ⟨v',rfl,hown,hgb,hblk⟩
  have hcells : (C.ty k l).den ρ = l.flatMap fun a => denL ρ (k.enc a) := rfl
  have hcells2 : (C.ty k [y]).den ρ = [y].flatMap fun a => denL ρ (k.enc a) := rfl
  rw [hcells,hcells2] at hown
  have hfl : (l.flatMap fun a => denL ρ (k.enc a)).take (i.toNat * k.sz) ++ ([y].flatMap fun a => denL ρ (k.enc a)) ++ (l.flatMap fun a => denL ρ (k.enc a)).drop (i.toNat * k.sz) = (insL l i y).flatMap fun a => denL ρ (k.enc a) := by
   unfold insL
   rw [← zq845,← zq837,List.flatMap_append,List.flatMap_cons]
   simp only [List.flatMap_cons,List.flatMap_nil,List.append_nil,zc46]
  rw [hfl] at hown
  have hlen : (insL l i y).length = l.length + 1 := by unfold insL; simp; omega
  rw [← hlen] at hown
  obtain ⟨hm',hv⟩ := hm.replaced hj (l := insL l i y) hown hgb hblk
  exact ⟨upd ρ m.length v',.row m.length,_,congrArg Ending.returned hv,hm',zq1828 _ _ _,by simp,fun _ => by simp [SV.lt],hk⟩
 ·obtain ⟨j,jv,i,l,y,rfl,hj,hjv,hne,h0,h1,hroom,ha,hk⟩ := inv hk
  refine ⟨.row m.length,_,?_,hk,fun hl => by cases hl⟩
  simp only [zq931,ha]
  rw [show (decide (0 ≤ i) && decide (i ≤ lenL l) && room (lenL l) 1) = true by simp [h0,h1,hroom]]
  rfl
end Go.Ma
