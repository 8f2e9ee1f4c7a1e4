/-
  THE MACHINE, part S: contracts that use up a row of the caller's own: slices.Insert of one element.
-/
import Derived.Test.YtihapikjcifbaaaDoorMaR
namespace Go.Ma
open Go Go.RowKit

/-- A row of the caller's own is used up; the row that comes stands in its place, or at a new block. -/
theorem RelM.replaced {W : World} {ρ : Nat → Value} {m : Mem} {w w' : World} (hm : RelM W ρ m w) {j : Nat} {c : C} {bt : TypeId} (hj : m[j]? = some (.row c bt true)) {v' : Value} {k : K} {l : List k.T} {e : TypeId}
    (hown' : w'.ownsRow W.heap.size e k.sz v' l.length (l.flatMap fun a => denL ρ (k.enc a))) (hgb : w.grownBy w' (ρ j).ownBlock) (hblk : ∀ b, v'.ownBlock = some b → (ρ j).ownBlock = some b ∨ w.heap.size ≤ b) :
    RelM W (upd ρ m.length v') (m.set j .dead ++ [.row (.ty k l) e true]) w' ∧ v' = den (upd ρ m.length v') (.row m.length) := by
  have hv' : ∃ A' c', v' = .slice A' l.length c' := by
    rcases hown'.2 with ⟨h, h0⟩ | ⟨g, cap, cur, h, _⟩
    · exact ⟨none, 0, by rw [h, h0]⟩
    · exact ⟨_, _, h⟩
  have hvb : ∀ b, valBlock v' = some b → (ρ j).ownBlock = some b ∨ w.heap.size ≤ b := by
    obtain ⟨A', c', rfl⟩ := hv'
    intro b hb
    exact hblk b (by cases A' <;> simp_all [valBlock, Value.ownBlock])
  have hag := upd_agree ρ m.length v'
  have hkl : (m.set j .dead).length = m.length := by simp
  have hkill : ∀ (i : Nat) (o : Obj), (m.set j .dead)[i]? = some o → (o = .dead ∧ j = i) ∨ (j ≠ i ∧ m[i]? = some o) := by
    intro i o h
    have := killO_get (j := some j) h
    simpa using this
  have hjow : ∀ b, (ρ j).ownBlock = some b → valBlock (ρ j) = some b := by
    intro b hb
    revert hb
    cases ρ j <;> simp [Value.ownBlock, valBlock]
    rename_i A1 _ _
    cases A1 <;> simp
  have hold : ∀ (i : Nat) (ob : Obj), (m.set j .dead)[i]? = some ob → (ob matches .dead) = false → m[i]? = some ob ∧ ∀ b, valBlock (ρ i) = some b → (ρ j).ownBlock ≠ some b := by
    intro i ob hi hlive
    rcases hkill i ob hi with ⟨rfl, _⟩ | ⟨hne, hmi⟩
    · cases hlive
    · exact ⟨hmi, fun b hb hown => hm.sep j i _ ob hne hj hmi rfl hlive b (hjow b hown) hb⟩
  have hkeep : ∀ (i : Nat) (ob : Obj), (m.set j .dead)[i]? = some ob → ObjIs W w' ρ (ρ i) ob := by
    intro i ob hi
    cases hlive : (match ob with | .dead => true | _ => false)
    · obtain ⟨hmi, hne⟩ := hold i ob hi hlive
      exact (hm.obj i ob hmi).keep (fun b hb hlt => hgb.block b hlt (fun e => hne b hb e.symm)) hgb.size
    · cases ob <;> simp at hlive
      trivial
  have hbase : ∀ b, (ρ j).ownBlock = some b → W.heap.size ≤ b := by
    intro b hb
    obtain ⟨_, _, hown⟩ := hm.obj j _ hj
    rw [if_pos rfl] at hown
    rcases hown.2 with ⟨h, _⟩ | ⟨g, cp, cur, h, h2, _⟩
    · rw [h] at hb; cases hb
    · rw [h] at hb
      simp only [Value.ownBlock, Option.some.injEq] at hb
      omega
  have hbelow : Below W.heap.size W w' := hm.below.grown hgb hm.below.size hbase
  have hlast : ∀ (i : Nat) (ob : Obj), (m.set j .dead ++ [.row (.ty k l) e true])[i]? = some ob →
      (i < m.length ∧ (m.set j .dead)[i]? = some ob) ∨ (i = m.length ∧ ob = .row (.ty k l) e true) := by
    intro i ob hi
    rw [List.getElem?_append] at hi
    split at hi
    · rename_i hlt; rw [hkl] at hlt; exact .inl ⟨hlt, hi⟩
    · rename_i hge
      have hx := List.getElem?_eq_some_iff.1 hi
      obtain ⟨hx, hy⟩ := hx
      simp only [List.length_cons, List.length_nil, hkl] at hx hge
      have hie : i = m.length := by omega
      subst hie
      simp only [hkl, Nat.sub_self, List.getElem?_cons_zero, Option.some.injEq] at hi
      exact .inr ⟨rfl, hi.symm⟩
  have hden : ∀ ρ', (C.ty k l).den ρ' = l.flatMap fun a => denL ρ (k.enc a) := fun ρ' => by
    simp only [C.den]
    congr 1
    funext a
    exact denL_enc ρ ρ' k a
  refine ⟨⟨hbelow, fun i ob hi => ?_, fun i q o1 o2 hik hi hk' hmut hlive b hb hb' => ?_, fun i ob hi => ?_⟩, ?_⟩
  · rcases hlast i ob hi with ⟨hil, hi⟩ | ⟨rfl, rfl⟩
    · rw [hag i hil]
      refine (hkeep i ob hi).agree hag ?_
      rcases hkill i ob hi with ⟨rfl, _⟩ | ⟨_, hmi⟩
      · rfl
      · exact hm.lt i ob hmi
    · rw [upd_same]
      refine ⟨(sz_pos k : 0 < k.sz), ?_, ?_⟩
      · intro u hu
        rw [hden] at hu
        simp only [List.mem_flatMap, denL_map, List.mem_map] at hu
        obtain ⟨x, _, c, hc, rfl⟩ := hu
        exact one_den (enc_one k x c hc)
      · rw [if_pos rfl, hden]
        exact hown'
  · rcases hlast i o1 hi with ⟨hil, hi⟩ | ⟨rfl, rfl⟩ <;> rcases hlast q o2 hk' with ⟨hkl', hk'⟩ | ⟨rfl, rfl⟩
    · rw [hag i hil] at hb
      rw [hag q hkl'] at hb'
      have hl1 := mutB_live hmut
      obtain ⟨hmi, _⟩ := hold i o1 hi hl1
      obtain ⟨hmk, _⟩ := hold q o2 hk' hlive
      exact hm.sep i q o1 o2 hik hmi hmk hmut hlive b hb hb'
    · rw [hag i hil] at hb
      rw [upd_same] at hb'
      have hl1 := mutB_live hmut
      obtain ⟨hmi, hne⟩ := hold i o1 hi hl1
      rcases hvb b hb' with h | h
      · exact hne b hb h
      · have := ObjIs.lt_heap hb hl1 (hm.obj i o1 hmi)
        omega
    · rw [hag q hkl'] at hb'
      rw [upd_same] at hb
      obtain ⟨hmk, hne⟩ := hold q o2 hk' hlive
      rcases hvb b hb with h | h
      · exact hne b hb' h
      · have := ObjIs.lt_heap hb' hlive (hm.obj q o2 hmk)
        omega
    · exact hik rfl
  · simp only [List.length_append, hkl, List.length_cons, List.length_nil]
    rcases hlast i ob hi with ⟨hil, hi⟩ | ⟨rfl, rfl⟩
    · rcases hkill i ob hi with ⟨rfl, _⟩ | ⟨_, hmi⟩
      · rfl
      · exact Obj.lt_mono (by omega) ob (hm.lt i ob hmi)
    · rfl
  · obtain ⟨A', c', rfl⟩ := hv'
    simp [den, upd_same, sliceVal]

def castK {k k' : K} (h : k = k') (x : k.T) : k'.T := h ▸ x
/-- What slices.Insert of one element comes to: the row's place, what it holds, the place, the element. -/
def insArgs (k : K) (e : TypeId) (args : List SV) (m : Mem) : Option (Nat × List k.T × Int × k.T) :=
  match args with
  | [.row j, .i .i64 i, .row jv] =>
    match m[j]?, m[jv]? with
    | some (.row (.ty k1 l) bt true), some (.row (.ty k2 [x]) bt2 true) =>
      if h1 : k1 = k then if h2 : k2 = k then if bt == e && bt2 == e && !(j == jv) then some (j, castL h1 l, i, castK h2 x) else none else none else none
    | _, _ => none
  | _ => none
def insCon (k : K) (e : TypeId) : Con :=
  { tr := fun _ args m kk => match insArgs k e args m with
      | some (j, l, i, x) => req (decide (0 ≤ i) && decide (i ≤ lenL l) && room (lenL l) 1) (kk (.row m.length) (m.set j .dead ++ [.row (.ty k (insL l i x)) e true]))
      | none => none
    q := false, law := false, det := true }
theorem ins_ok {P : Program} {f : FuncId} (k : K) (e : TypeId)
    (h : ∀ (base : Nat) (w : World) (v u : Value) (n i : Nat) (cs xs : List Value), w.ownsRow base e k.sz v n cs → w.ownsRow base e k.sz u 1 xs → (∀ b, v.ownBlock = some b → u.ownBlock ≠ some b) → (∀ x ∈ cs, oneC x = true) → (∀ x ∈ xs, oneC x = true) → base ≤ w.heap.size → i ≤ n → n + 1 ≤ 274877906944 →
      Calls P f #[v, .int .i64 (i : Int), u] w fun r w' => ∃ v', r = .returned v' ∧ w'.ownsRow base e k.sz v' (n + 1) (cs.take (i * k.sz) ++ xs ++ cs.drop (i * k.sz)) ∧ w.grownBy w' v.ownBlock ∧ (∀ b, v'.ownBlock = some b → v.ownBlock = some b ∨ w.heap.size ≤ b)) : TrOk P f (insCon k e) := by
  have inv : ∀ {X : Type} {args : List SV} {m : Mem} {kk : SV → Mem → Option X} {x : X}, (insCon k e).tr X args m kk = some x → ∃ (j jv : Nat) (i : Int) (l : List k.T) (y : k.T), args = [.row j, .i .i64 i, .row jv] ∧ m[j]? = some (.row (.ty k l) e true) ∧ m[jv]? = some (.row (.ty k [y]) e true) ∧ j ≠ jv ∧ 0 ≤ i ∧ i ≤ lenL l ∧ room (lenL l) 1 = true ∧
      insArgs k e args m = some (j, l, i, y) ∧ kk (.row m.length) (m.set j .dead ++ [.row (.ty k (insL l i y)) e true]) = some x := by
    intro X args m kk x hk
    simp only [insCon] at hk
    split at hk
    rotate_left
    · cases hk
    rename_i j l i y ha
    obtain ⟨h1, h2⟩ := req_some hk
    simp only [Bool.and_eq_true, decide_eq_true_eq] at h1
    have ha0 := ha
    unfold insArgs at ha
    split at ha
    rotate_left
    · cases ha
    split at ha
    rotate_left
    · cases ha
    rename_i j1 i1 jv1 _ _ k1 l1 bt k2 x2 bt2 hj hjv
    split at ha
    rotate_left
    · cases ha
    rename_i e1
    split at ha
    rotate_left
    · cases ha
    rename_i e2
    split at ha
    rotate_left
    · cases ha
    rename_i hc
    simp only [Bool.and_eq_true, beq_iff_eq, Bool.not_eq_true', beq_eq_false_iff_ne] at hc
    obtain ⟨⟨rfl, rfl⟩, hne⟩ := hc
    subst e1
    subst e2
    simp only [Option.some.injEq, Prod.mk.injEq] at ha
    obtain ⟨rfl, rfl, rfl, rfl⟩ := ha
    exact ⟨_, _, _, _, _, rfl, hj, hjv, hne, h1.1.1, h1.1.2, h1.2, ha0, h2⟩
  refine ⟨fun W _ X args m kk x hk _ => ⟨fun _ ρ w hm => ?_⟩, (fun hq => by cases hq), fun _ X args m kk x hk => ?_⟩
  · obtain ⟨j, jv, i, l, y, rfl, hj, hjv, hne, h0, h1, hroom, _, hk⟩ := inv hk
    have ho1 := hm.obj j _ hj
    have ho2 := hm.obj jv _ hjv
    obtain ⟨_, hc1, ho1⟩ := ho1
    obtain ⟨_, hc2, ho2⟩ := ho2
    rw [if_pos rfl] at ho1 ho2
    have hr1 : ∃ A cap, ρ j = .slice A l.length cap := by
      obtain ⟨_, A, cap, hρ, _⟩ := RelM.row hm hj
      exact ⟨A, cap, hρ⟩
    have hr2 : ∃ A cap, ρ jv = .slice A 1 cap := by
      obtain ⟨_, A, cap, hρ, _⟩ := RelM.row hm hjv
      exact ⟨A, cap, hρ⟩
    have hd1 : den ρ (.row j) = ρ j := by obtain ⟨A, cap, hρ⟩ := hr1; simp only [den, hρ, sliceVal]
    have hd2 : den ρ (.row jv) = ρ jv := by obtain ⟨A, cap, hρ⟩ := hr2; simp only [den, hρ, sliceVal]
    have e1 : ((i.toNat : Nat) : Int) = i := Int.toNat_of_nonneg h0
    have hil : i.toNat ≤ l.length := by unfold lenL at h1; omega
    have hro : l.length + 1 ≤ 274877906944 := by
      have := Nat.le_of_ble_eq_true hroom
      simpa [lenL] using this
    have hjow : ∀ (q : Nat) (b : Nat), (ρ q).ownBlock = some b → valBlock (ρ q) = some b := by
      intro q b hb
      revert hb
      cases ρ q <;> simp [Value.ownBlock, valBlock]
      rename_i A1 _ _
      cases A1 <;> simp
    have := h W.heap.size w (ρ j) (ρ jv) l.length i.toNat _ _ ho1 ho2 (fun b hb hb' => hm.sep j jv _ _ hne hj hjv rfl rfl b (hjow j b hb) (hjow jv b hb')) hc1 hc2 hm.below.size hil hro
    rw [e1] at this
    have ed : (denL ρ [.row j, .i .i64 i, .row jv]).toArray = #[ρ j, .int .i64 i, ρ jv] := by
      show #[den ρ (.row j), .int .i64 i, den ρ (.row jv)] = _
      rw [hd1, hd2]
    rw [ed]
    refine this.mono ?_
    rintro r w' ⟨v', rfl, hown, hgb, hblk⟩
    have hcells : (C.ty k l).den ρ = l.flatMap fun a => denL ρ (k.enc a) := rfl
    have hcells2 : (C.ty k [y]).den ρ = [y].flatMap fun a => denL ρ (k.enc a) := rfl
    rw [hcells, hcells2] at hown
    have hfl : (l.flatMap fun a => denL ρ (k.enc a)).take (i.toNat * k.sz) ++ ([y].flatMap fun a => denL ρ (k.enc a)) ++ (l.flatMap fun a => denL ρ (k.enc a)).drop (i.toNat * k.sz) = (insL l i y).flatMap fun a => denL ρ (k.enc a) := by
      unfold insL
      rw [← flat_take, ← flat_drop, List.flatMap_append, List.flatMap_cons]
      simp only [List.flatMap_cons, List.flatMap_nil, List.append_nil, List.append_assoc]
    rw [hfl] at hown
    have hlen : (insL l i y).length = l.length + 1 := by unfold insL; simp; omega
    rw [← hlen] at hown
    obtain ⟨hm', hv⟩ := hm.replaced hj (l := insL l i y) hown hgb hblk
    exact ⟨upd ρ m.length v', .row m.length, _, congrArg Ending.returned hv, hm', upd_agree _ _ _, by simp, fun _ => by simp [SV.lt], hk⟩
  · obtain ⟨j, jv, i, l, y, rfl, hj, hjv, hne, h0, h1, hroom, ha, hk⟩ := inv hk
    refine ⟨.row m.length, _, ?_, hk, fun hl => by cases hl⟩
    simp only [insCon, ha]
    rw [show (decide (0 ≤ i) && decide (i ≤ lenL l) && room (lenL l) 1) = true by simp [h0, h1, hroom]]
    rfl
end Go.Ma
