/-
  THE MACHINE, part H: loops. A loop's head is a state of a given form, of typed variables; a round comes back to that form, or leaves by an exit whose states have a form too.
-/
import Derived.Test.YtihapikjcifbaaaDoorMaG
import Derived.LoopN
import Derived.Deep.LoopGhost
namespace Go.Ma
open Go Go.RowKit

/-- The loop as a function. -/
def loopN {α Y : Type} (step : (α → Option Y) → α → Option Y) : Nat → α → Option Y
  | 0, _ => none
  | n + 1, x => step (loopN step n) x
def FUEL : Nat := 18446744073709551616
structure LoopS where
  n : Nat
  base : Nat
  head : Form
  exits : List ExitF
def loopTr (ls : LoopS) (L : ls.head.T → Option (OutT ls.exits)) : LTr := fun _ base s e r =>
  bif decide (base = ls.base) then (isF ls.n ls.base ls.head s).bind fun x => (L x).bind fun y => goOn ls.n e r ls.exits y else none

theorem loop_ok {P : Program} {E : Env} (hE : EnvOk P E) {b : Code} (hl : LoopsOk P E b) (ls : LoopS) (step : (ls.head.T → Option (OutT ls.exits)) → ls.head.T → Option (OutT ls.exits)) (N : Nat)
    (h : ∀ rec x, ix E ls.base b (stF ls.n ls.head x) (fun s => (isF ls.n ls.base ls.head s).bind rec) (fun i s => outF ls.n ls.base ls.exits (some i) s) (fun s => outF ls.n ls.base ls.exits none s) = step rec x) :
    LOk P b (loopTr ls (loopN step N)) := by
  intro W hG X base s e r x hx
  unfold loopTr at hx
  cases hb : decide (base = ls.base)
  · rw [hb] at hx; cases hx
  rw [hb] at hx
  simp only [decide_eq_true_eq] at hb
  subst hb
  obtain ⟨x0, hx0, hx⟩ := Option.bind_eq_some_iff.1 hx
  obtain ⟨y, hy, hgo⟩ := Option.bind_eq_some_iff.1 hx
  refine ⟨fun hbase ρ a w Q hs _ he hr => ?_⟩
  obtain ⟨ρ0, hs0, hag0, hle0⟩ := hs.form hx0
  refine wp_loop_ghost (fun k a' w' => ∃ z ρ', RelS W ρ' (stF ls.n ls.head z) a' w' ∧ loopN step k z = some y ∧ Agree ls.base ρ ρ' ∧ ls.base ≤ (stF ls.n ls.head z).m.length) N ⟨x0, ρ0, hs0, hy, hag0, hle0⟩ ?_
  rintro k a' w' ⟨z, ρ', hs', hz, hag, hle⟩
  cases k with
  | zero => cases hz
  | succ k =>
    have hz : step (loopN step k) z = some y := hz
    rw [← h (loopN step k) z] at hz
    refine (ix_ok ⟨hE, hG⟩ b _ _ _ _ hl hz).code hle ρ' a' w' _ hs' (fun ρ'' s'' a'' w'' hag' hle' hs'' hk => ?_) (fun i ρ'' s'' a'' w'' hag' hle' hs'' hk => ?_) (fun ρ'' s'' a'' w'' hag' hle' hs'' hk => ?_)
    · obtain ⟨z', hz', hk⟩ := Option.bind_eq_some_iff.1 hk
      obtain ⟨ρ3, hs3, hag3, hle3⟩ := hs''.form hz'
      exact ⟨k, by omega, z', ρ3, hs3, hk, (hag.trans hag' (Nat.le_refl _)).trans hag3 (Nat.le_refl _), hle3⟩
    · obtain ⟨f, u, hf, hgo'⟩ := out_go ls.exits (some i) s'' y hk hgo
      obtain ⟨ρ3, hs3, hag3, hle3⟩ := hs''.form hf
      exact he i ρ3 _ a'' w'' ((hag.trans hag' (Nat.le_refl _)).trans hag3 (Nat.le_refl _)) hle3 hs3 hgo'
    · obtain ⟨f, u, hf, hgo'⟩ := out_go ls.exits none s'' y hk hgo
      obtain ⟨ρ3, hs3, hag3, hle3⟩ := hs''.form hf
      exact hr ρ3 _ a'' w'' ((hag.trans hag' (Nat.le_refl _)).trans hag3 (Nat.le_refl _)) hle3 hs3 hgo'

/-! Loops that are run round by round. -/
noncomputable def unr (E : Env) (base : Nat) (b : Code) {X : Type} (e : Nat → St → Option X) (r : St → Option X) : Nat → St → Option X
  | 0, _ => none
  | k + 1, s => ix E base b s (unr E base b e r k) e r
noncomputable def unrollTr (E : Env) (b : Code) (k : Nat) : LTr := fun _ base s e r => unr E base b e r k s
theorem unroll_ok {P : Program} {E : Env} (hE : EnvOk P E) {b : Code} (hl : LoopsOk P E b) (k : Nat) : LOk P b (unrollTr E b k) := by
  intro W hG X base s e r x hx
  have hx : unr E base b e r k s = some x := hx
  refine ⟨fun hbase ρ a w Q hs _ he hr => wp_loop_rounds k ?_⟩
  have key : ∀ (k : Nat) (s : St) (ρ' : Nat → Value) (a : Act) (w : World), Agree base ρ ρ' → base ≤ s.m.length → RelS W ρ' s a w → unr E base b e r k s = some x → Code.rounds P b Q k a w := by
    intro k
    induction k with
    | zero => intro s ρ' a w _ _ _ h; cases h
    | succ k ih =>
      intro s ρ' a w hag hle hs h
      rw [rounds_succ]
      refine (ix_ok ⟨hE, hG⟩ b s _ e r hl h).code hle ρ' a w _ hs (fun ρ'' s'' a'' w'' hag' hle' hs'' hk => ?_) (fun i ρ'' s'' a'' w'' hag' hle' hs'' hk => ?_) (fun ρ'' s'' a'' w'' hag' hle' hs'' hk => ?_)
      · exact ih s'' ρ'' a'' w'' (hag.trans hag' (Nat.le_refl _)) hle' hs'' hk
      · exact he i ρ'' s'' a'' w'' (hag.trans hag' (Nat.le_refl _)) hle' hs'' hk
      · exact hr ρ'' s'' a'' w'' (hag.trans hag' (Nat.le_refl _)) hle' hs'' hk
  exact key k s ρ a w (Agree.refl _ _) hbase hs hx

/-! ### Environments out of lists. -/
def lookJ : List (Nat × JoinS) → Nat → Option JoinS
  | [], _ => none
  | (n, a) :: r, f => bif Nat.beq f n then some a else lookJ r f
def look {α : Type 1} : List (Nat × α) → Nat → Option α
  | [], _ => none
  | (n, a) :: r, f => bif Nat.beq f n then some a else look r f
def mkEnv (T : Nat → TI) (B : Nat → Bool) (calls : List (Nat × Con)) (loops : List (Nat × LTr)) (conds : List (Nat × JoinS) := []) : Env := { T := T, B := B, call := look calls, loop := look loops, cond := lookJ conds }
def CallsOk (P : Program) : List (Nat × Con) → Prop
  | [] => True
  | (f, g) :: r => TrOk P f g ∧ CallsOk P r
theorem callsNil {P : Program} : CallsOk P [] := trivial
theorem callsCons {P : Program} {f : Nat} {g : Con} {l : List (Nat × Con)} (h : TrOk P f g) (r : CallsOk P l) : CallsOk P ((f, g) :: l) := ⟨h, r⟩
theorem look_ok {P : Program} : ∀ {l : List (Nat × Con)}, CallsOk P l → ∀ f g, look l f = some g → TrOk P f g
  | [], _, f, g, h => by cases h
  | (n, a) :: r, hc, f, g, h => by
    simp only [look] at h
    cases hb : Nat.beq f n
    · rw [hb] at h; exact look_ok hc.2 f g h
    · rw [hb] at h
      have := Nat.eq_of_beq_eq_true hb
      subst this
      injection h with h
      subst h
      exact hc.1
theorem envOk {P : Program} {T : Nat → TI} {B : Nat → Bool} (hT : TOk P T) (hB : ∀ f, B f = true → HasBody P f) {calls : List (Nat × Con)} (hc : CallsOk P calls) (loops : List (Nat × LTr)) (conds : List (Nat × JoinS) := []) : EnvOk P (mkEnv T B calls loops conds) :=
  ⟨hT, hB, look_ok hc⟩
def codeOf (fn : Func) : Code := match fn.body with | some c => c | none => .skip
/-- The loops of a piece of code, one by one. -/
def LsOk (P : Program) (E : Env) : List Code → Prop
  | [] => True
  | b :: r => (∀ l, E.loop (regId b) = some l → LOk P b l) ∧ LsOk P E r
theorem lsNil {P : Program} {E : Env} : LsOk P E [] := trivial
theorem lsCons {P : Program} {E : Env} {b : Code} {l : List Code} (h : ∀ t, E.loop (regId b) = some t → LOk P b t) (r : LsOk P E l) : LsOk P E (b :: l) := ⟨h, r⟩
theorem ls_mem {P : Program} {E : Env} : ∀ {l : List Code}, LsOk P E l → ∀ b ∈ l, ∀ t, E.loop (regId b) = some t → LOk P b t
  | [], _, b, hb, _, _ => by cases hb
  | c :: r, h, b, hb, t, ht => by
    rcases List.mem_cons.1 hb with rfl | hb
    · exact h.1 t ht
    · exact ls_mem h.2 b hb t ht
theorem loopsOk {P : Program} {E : Env} {c : Code} {l : List Code} (h : loopsOf c = l) (hl : LsOk P E l) : LoopsOk P E c := fun b hb => ls_mem hl b (by rw [← h]; exact hb)
theorem one_loop {P : Program} {E : Env} {b : Code} {t : LTr} (h : E.loop (regId b) = some t) (ht : LOk P b t) : ∀ l, E.loop (regId b) = some l → LOk P b l := by
  intro l hl
  rw [h] at hl
  injection hl with hl
  subst hl
  exact ht
theorem bodyOk {P : Program} {E : Env} {fn : Func} {l : List Code} (h : loopsOf (codeOf fn) = l) (hl : LsOk P E l) : ∀ c, fn.body = some c → LoopsOk P E c := by
  intro c hc
  refine loopsOk ?_ hl
  rw [← h]
  unfold codeOf
  rw [hc]
def nthLoop (c : Code) (i : Nat) : Code := (loopsOf c).getD i .skip
/-- Structs compared cell by cell. -/
def eqAd (a b : Ad) : Bool := beqB a.v6 b.v6 && (acmp .eql a.hi b.hi && acmp .eql a.lo b.lo)
def eqPf (a b : Pf) : Bool := beqB a.ad.v6 b.ad.v6 && (acmp .eql a.ad.hi b.ad.hi && (acmp .eql a.ad.lo b.ad.lo && acmp .eql a.bits b.bits))
def eqLs (a b : Ls) : Bool := beqB a.ad.v6 b.ad.v6 && (acmp .eql a.ad.hi b.ad.hi && (acmp .eql a.ad.lo b.ad.lo && (strcmp .eql a.who b.who && acmp .eql a.upto b.upto)))
def eqOq (a b : Oq) : Bool := acmp .eql a.kind b.kind && (beqB a.pf.ad.v6 b.pf.ad.v6 && (acmp .eql a.pf.ad.hi b.pf.ad.hi && (acmp .eql a.pf.ad.lo b.pf.ad.lo && (acmp .eql a.pf.bits b.pf.bits && (beqB a.ad.v6 b.ad.v6 && (acmp .eql a.ad.hi b.ad.hi && (acmp .eql a.ad.lo b.ad.lo && (strcmp .eql a.who b.who && (acmp .eql a.of_ b.of_ && acmp .eql a.n b.n)))))))))
def eqEn (a b : En) : Bool := acmp .eql a.num b.num && (acmp .eql a.epoch b.epoch && eqOq a.op b.op)
end Go.Ma
