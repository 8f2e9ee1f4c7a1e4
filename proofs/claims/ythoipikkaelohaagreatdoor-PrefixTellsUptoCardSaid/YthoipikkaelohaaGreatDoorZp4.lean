/-
  Parts: Yb Va Vb Vc Vd Cg Lk Zg Ty Wk Gf Qs Qb Qt Qe Qr.
-/
import Derived.Lib.AtoiTie
import Derived.Lib.IndexLaws
import Derived.Test.YthoipikkaelohaaGreatDoorRows
import Derived.WalkKit
import Derived.ProofKit
import Derived.Laws.IdiomStrings
import Derived.Deep.Cut
import Derived.Shelf.Strings.Builder1
import Derived.Shelf.Strings.Builder2
import Derived.Shelf.Strings.OnBuilder
import Derived.Shelf.Utf8.RuneCount
import Derived.Shelf.Strconv.Atoi
import Derived.Shelf.Strconv.Itoa0
import Derived.Shelf.Strconv.Itoa1
import Derived.Shelf.LaysM
import Derived.Shelf.Strconv.Itoa2
import Derived.Shelf.Strconv.Itoa3
import Derived.Shelf.Strconv.AtoiErrFast
import Derived.Shelf.Strconv.ParseIntEmpty
import Derived.Shelf.Strconv.AtoiFail
import Derived.Shelf.Strconv.Clone
import Derived.Shelf.Strconv.SyntaxError
import Derived.Shelf.LaysC
import Derived.Shelf.Strconv.ToError
import Derived.Shelf.Strconv.Lower
import Derived.Shelf.Strconv.ParseUint10
import Derived.Shelf.Strconv.ParseUint10Empty
import Derived.Shelf.Strconv.ParseUint10Any
import Derived.Shelf.Strconv.ParseInt10
import Derived.Shelf.Strconv.AtoiLong
import Derived.Shelf.Strconv.AtoiInnerAll
import Derived.Shelf.Strconv.RangeError
import Derived.Shelf.Strconv.ToErrorRange
import Derived.Shelf.Strconv.AtoiAll
import Derived.Ground.MpProg
import Derived.Shelf.Pu.ParseUintPublic10
import Derived.Shelf.Pu.ErrVarParseUint
import Derived.Shelf.Strings.Search1
import Derived.Shelf.Strings.Search2
import Derived.Shelf.Strings.Search3
import Derived.Shelf.Strings.Cut
import Derived.Shelf.Strings.Count
import Derived.Shelf.Strings.Shaped
import Derived.Shelf.Strings.Split
import Derived.Shelf.Strings.SplitShaped
import Derived.Shelf.Unicode.Decode
import Derived.Shelf.Strings.RuneCount
import Derived.Shelf.Strings.Explode
import Derived.Shelf.Unicode.DecodeSlow
import Derived.Shelf.Unicode.DecodeAny
import Derived.Test.YthoipikkaelohaaGreatDoorProg
import Derived.Lib.AppendIntMem
import Derived.Lib.AtoiAllMem
import Derived.Laws.Strings3
import Derived.Laws.Closers25
import Derived.Laws.Closers25b
import Derived.BigCall
import Derived.BigGuard
import Derived.WalkLawsBesides
import Derived.RegionTactic
import Derived.ChangeAlike
import Derived.BigRegion
import Derived.Test.YthoipikkaelohaaGreatDoorZp3
set_option linter.unusedVariables false
set_option linter.unusedSimpArgs false
namespace Go.Ma
open Go
theorem decFrom_app : ∀ (l r : List UInt8) (acc : Nat), Lib.decFrom acc (l ++ r) = (Lib.decFrom acc l).bind fun m => Lib.decFrom m r
 | [], r, acc => rfl
 | b :: l, r, acc => by
  simp only [List.cons_append, Lib.decFrom]
  cases Lib.digitVal b with
  | none => rfl
  | some d => exact decFrom_app l r _
theorem digit_val (d : Nat) (h : d < 10) : Lib.digitVal (UInt8.ofNat (48 + d)) = some d := by
 have : ∀ d : Fin 10, Lib.digitVal (UInt8.ofNat (48 + d.val)) = some d.val := by decide
 exact this ⟨d, h⟩
theorem digit_big (d : Nat) (h : d < 10) : 48 ≤ (UInt8.ofNat (48 + d)).toNat ∧ (UInt8.ofNat (48 + d)).toNat ≤ 57 := by
 have : ∀ d : Fin 10, 48 ≤ (UInt8.ofNat (48 + d.val)).toNat ∧ (UInt8.ofNat (48 + d.val)).toNat ≤ 57 := by decide
 exact this ⟨d, h⟩
theorem decFrom_dec (u : Nat) : Lib.decFrom 0 (Lib.decDigits u) = some u := by
 induction u using Nat.strongRecOn with
 | ind u ih =>
  rw [Lib.decDigits]
  by_cases h : u < 10
  ·rw [dif_pos h]
   simp only [Lib.decFrom, digit_val u h, Nat.zero_mul, Nat.zero_add]
  ·rw [dif_neg h, decFrom_app, ih (u / 10) (by omega)]
   simp only [Option.bind_some, Lib.decFrom, digit_val (u % 10) (by omega)]
   congr 1
   omega
theorem dec_len : ∀ (k u : Nat), u < 10 ^ (k + 1) → (Lib.decDigits u).length ≤ k + 1
 | 0, u, h => by rw [Lib.decDigits, dif_pos (by simpa using h)]; simp
 | k + 1, u, h => by
  rw [Lib.decDigits]
  by_cases h1 : u < 10
  ·rw [dif_pos h1]; simp
  ·rw [dif_neg h1]
   have := dec_len k (u / 10) (by
    have : (10 : Nat) ^ (k + 1 + 1) = 10 ^ (k + 1) * 10 := by rw [Nat.pow_succ]
    omega)
   simp only [List.length_append, List.length_cons, List.length_nil]
   omega
theorem dec_chars (u : Nat) : ∀ c ∈ Lib.decDigits u, 48 ≤ c.toNat ∧ c.toNat ≤ 57 := by
 induction u using Nat.strongRecOn with
 | ind u ih =>
  rw [Lib.decDigits]
  by_cases h : u < 10
  ·rw [dif_pos h]
   intro c hc
   simp only [List.mem_singleton] at hc
   subst hc
   exact digit_big u h
  ·rw [dif_neg h]
   intro c hc
   rcases List.mem_append.1 hc with hc | hc
   ·exact ih (u / 10) (by omega) c hc
   ·simp only [List.mem_singleton] at hc
    subst hc
    exact digit_big (u % 10) (by omega)
theorem dec_no (u : Nat) (b : UInt8) (hb : b.toNat < 48) : b ∉ Lib.decDigits u := fun h => by
 have := (dec_chars u b h).1
 omega
theorem dec_ne (u : Nat) : ∃ b r, Lib.decDigits u = b :: r := by
 cases h : Lib.decDigits u with
 | cons b r => exact ⟨b, r, rfl⟩
 | nil =>
  rw [Lib.decDigits] at h
  split at h <;> simp at h
def Wd (l : List UInt8) : ByteArray := ⟨l.toArray⟩
theorem wd_list (l : List UInt8) : (Wd l).data.toList = l := by simp [Wd]
theorem wd_size (l : List UInt8) : (Wd l).size = l.length := by simp [Wd, ByteArray.size]
theorem itoa_any {u : Nat} (h : u < 1000000) : strconv_Itoa_t (u : Int) = some (Wd (Lib.decDigits u), ()) := by
 unfold strconv_Itoa_t
 rw [req_of (by rw [Bool.and_eq_true, decide_eq_true_iff, decide_eq_true_iff]; omega), Int.toNat_natCast]
 rfl
theorem digits_any {s : ByteArray} (hs : s.size ≤ 1073741824) : prefix_Digits_t s = some (digN s, digB s, ()) := by
 unfold prefix_Digits_t
 rw [req_of (Nat.ble_eq_true_of_le hs)]
theorem cut_at47 {T D : List UInt8} (hT : (47 : UInt8) ∉ T) (hl : T.length + D.length < 1000000000) : strings_Cut_t (Wd (T ++ 47 :: D)) (⟨#[47]⟩ : ByteArray) = some (Wd T, Wd D, true, ()) := by
 have hi : zq5 (Wd (T ++ 47 :: D)) (⟨#[47]⟩ : ByteArray) = some ((T.length : Int), ()) := by
  unfold zq5
  show some (Lib.indexByte (Wd (T ++ 47 :: D)).data.toList 47, ()) = _
  rw [wd_list, byte_first T D 47 hT]
 have hS : lenS (Wd (T ++ 47 :: D)) = (T.length : Int) + 1 + (D.length : Int) := by
  unfold lenS
  rw [wd_size]
  simp
  omega
 have h1 : lenS (⟨#[47]⟩ : ByteArray) = 1 := rfl
 have c1 : (true && decide ((T.length : Int) ≤ (T.length : Int) + 1 + (D.length : Int))) = true := by simp; omega
 have c2 : ((decide (0 ≤ (T.length : Int) + 1) && decide ((T.length : Int) + 1 ≤ (T.length : Int) + 1 + (D.length : Int))) && decide ((T.length : Int) + 1 + (D.length : Int) ≤ (T.length : Int) + 1 + (D.length : Int))) = true := by simp; omega
 unfold strings_Cut_t internal_stringslite_Cut_t
 rw [hi, bind_s, hS, h1]
 simp only
 rw [decide_eq_true (show (T.length : Int) ≥ 0 by omega), br_true, req_of c1, req_of (i64ok_of (by omega) (by omega)), req_of c2, bind_s]
 have e1 : subS (Wd (T ++ 47 :: D)) 0 (T.length : Int) = Wd T := by
  apply ByteArray.ext
  simp [subS, Wd, ByteArray.data_extract]
 have e2 : subS (Wd (T ++ 47 :: D)) ((T.length : Int) + 1) ((T.length : Int) + 1 + (D.length : Int)) = Wd D := by
  apply ByteArray.ext
  have q1 : ((T.length : Int) + 1).toNat = T.length + 1 := by omega
  have q2 : ((T.length : Int) + 1 + (D.length : Int)).toNat = T.length + 1 + D.length := by omega
  simp only [subS, Wd, ByteArray.data_extract, q1, q2]
  apply Array.ext'
  simp
 rw [e1, e2]
end Go.Ma
namespace Go.Ma
open Go
structure Bk where
 v : Bool
 f : Nat
 k : Nat
 deriving DecidableEq
def Bk.lo (b : Bk) : Nat := b.k * 2 ^ b.f
def Bk.hi (b : Bk) : Nat := (b.k + 1) * 2 ^ b.f
def Bk.has (b : Bk) (v : Bool) (n : Nat) : Prop := b.v = v ∧ b.lo ≤ n ∧ n < b.hi
def covB (l : List Bk) (v : Bool) (n : Nat) : Prop := ∃ b ∈ l, b.has v n
def sib (a b : Bk) : Prop := a.v = b.v ∧ a.f = b.f ∧ a.k % 2 = 0 ∧ b.k = a.k + 1
def befB (a b : Bk) : Prop := (a.v = false ∧ b.v = true) ∨ (a.v = b.v ∧ a.hi ≤ b.lo)
structure NormB (l : List Bk) : Prop where
 asc : l.Pairwise befB
 nos : ∀ a ∈ l, ∀ b ∈ l, ¬ sib a b
theorem Bk.lo_lt_hi (b : Bk) : b.lo < b.hi := by
 unfold Bk.lo Bk.hi
 have := Nat.two_pow_pos b.f
 rw [Nat.add_mul]
 omega
theorem dblA (K F : Nat) : K * 2 ^ (F + 1) = 2 * K * 2 ^ F := by rw [Nat.pow_succ, Nat.mul_comm (2 ^ F) 2, ← Nat.mul_assoc, Nat.mul_comm K 2]
theorem dblB (K F : Nat) : (K + 1) * 2 ^ (F + 1) = (2 * K + 1 + 1) * 2 ^ F := by rw [dblA, show 2 * (K + 1) = 2 * K + 1 + 1 by omega]
end Go.Ma
namespace Go.Ma
open Go
instance (a b : Bk) : Decidable (sib a b) := by unfold sib; exact inferInstance
def upB (t : Bk) : Bk := ⟨t.v, t.f + 1, t.k / 2⟩
structure StkB (rs : List Bk) : Prop where
 asc : rs.Pairwise fun a b => befB b a
 nos : ∀ a ∈ rs, ∀ b ∈ rs, ¬ sib a b
structure ShB (done rs : List Bk) : Prop where
 stk : StkB rs
 cov : ∀ v n, covB rs v n ↔ covB done v n
 low : ∀ t ∈ rs, ∃ q ∈ done, q.v = t.v ∧ q.lo = t.lo ∧ q.f ≤ t.f
end Go.Ma
namespace Go.Ma
open Go
def toB (p : Pf) : Bk := ⟨p.ad.v6, free p, p.ad.num / 2 ^ free p⟩
def rtP (p : Pf) : Prop := p.In ∧ chkP p = 0
theorem toB_lo {p : Pf} (h : rtP p) : (toB p).lo = p.ad.num := by
 obtain ⟨_, h2, _⟩ := free_facts h.1 h.2
 have := Nat.div_add_mod p.ad.num (2 ^ free p)
 rw [h2, Nat.add_zero, Nat.mul_comm] at this
 exact this
theorem toB_hi {p : Pf} (h : rtP p) : (toB p).hi = p.ad.num + 2 ^ free p := by
 have h1 := toB_lo h
 unfold Bk.lo at h1
 unfold Bk.hi
 rw [Nat.add_mul, h1, Nat.one_mul]
 rfl
theorem free_bits {p : Pf} (h : chkP p = 0) : (free p : Int) = (wid p.ad.v6 : Nat) - p.bits := by
 obtain ⟨h1, h2⟩ := chkP_bits h
 unfold free
 omega
theorem toB_inj {p q : Pf} (hp : rtP p) (hq : rtP q) (h : toB p = toB q) : p = q := by
 have hv : p.ad.v6 = q.ad.v6 := congrArg Bk.v h
 have hf : free p = free q := congrArg Bk.f h
 have hn : p.ad.num = q.ad.num := by rw [← toB_lo hp, ← toB_lo hq, h]
 have ha : p.ad = q.ad := num_inj hp.1.1.wf hq.1.1.wf hv hn
 have h1 := free_bits hp.2
 have h2 := free_bits hq.2
 have hb : p.bits = q.bits := by rw [hf, h2, hv] at h1; omega
 obtain ⟨pa, pb⟩ := p
 obtain ⟨qa, qb⟩ := q
 simp only at ha hb
 rw [ha, hb]
end Go.Ma
namespace Go.Ma
open Go
def ofB (b : Bk) : Pf := ⟨ofNum b.v (b.k * 2 ^ b.f), ((wid b.v - b.f : Nat) : Int)⟩
def fitB (b : Bk) : Prop := b.f ≤ wid b.v ∧ b.hi ≤ 2 ^ wid b.v
theorem wid_top (v : Bool) : wid v ≤ 128 := by cases v <;> decide
theorem ofB_ok {b : Bk} (h : fitB b) : rtP (ofB b) ∧ toB (ofB b) = b := by
 obtain ⟨h1, h2⟩ := h
 have hw := wid_top b.v
 have hlt : b.k * 2 ^ b.f < 2 ^ wid b.v := Nat.lt_of_lt_of_le b.lo_lt_hi h2
 have hin : (ofNum b.v (b.k * 2 ^ b.f)).In := ofNum_inC hlt
 have hfr : free (ofB b) = b.f := by
  unfold free ofB
  show wid b.v - ((wid b.v - b.f : Nat) : Int).toNat = _
  rw [Int.toNat_natCast]; omega
 have hc : chkP (ofB b) = 0 := by
  unfold chkP
  have e1 : chkA (ofB b).ad = 0 := ofNum_chkC hlt
  have e2 : ¬ ((ofB b).bits < 0 ∨ (ofB b).bits > (wid (ofB b).ad.v6 : Nat)) := by
   show ¬ (((wid b.v - b.f : Nat) : Int) < 0 ∨ ((wid b.v - b.f : Nat) : Int) > (wid b.v : Nat))
   omega
  have e3 : cutA (ofB b).ad (ofB b).bits = (ofB b).ad := by
   have hw2 : (ofB b).ad.wf := hin.wf
   rw [cutA_iff hw2]
   refine (cutN_iff _ _).2 ?_
   show (ofNum b.v (b.k * 2 ^ b.f)).num % 2 ^ (free (ofB b)) = 0
   rw [hfr, num_ofNum, Nat.mul_mod_left]
  rw [if_neg (fun hh => hh e1), if_neg e2, if_neg (fun hh => hh e3)]
 refine ⟨⟨⟨hin, ?_⟩, hc⟩, ?_⟩
 ·show i64In ((wid b.v - b.f : Nat) : Int)
  constructor <;> omega
 ·unfold toB
  rw [hfr]
  have e : (ofB b).ad.num / 2 ^ b.f = b.k := by
   show (ofNum b.v (b.k * 2 ^ b.f)).num / 2 ^ b.f = b.k
   rw [num_ofNum, Nat.mul_div_cancel _ (Nat.two_pow_pos _)]
  rw [e]
  rfl
theorem toB_fit {p : Pf} (h : rtP p) : fitB (toB p) := by
 obtain ⟨f1, _, f3⟩ := free_facts h.1 h.2
 exact ⟨f1, by rw [toB_hi h]; exact f3⟩
theorem ofB_toB {p : Pf} (h : rtP p) : ofB (toB p) = p := toB_inj (ofB_ok (toB_fit h)).1 h (ofB_ok (toB_fit h)).2
def loB (b : Bk) : Bk := ⟨b.v, b.f - 1, 2 * b.k⟩
def hiB (b : Bk) : Bk := ⟨b.v, b.f - 1, 2 * b.k + 1⟩
theorem half_parts {b : Bk} (hf : 0 < b.f) : (loB b).lo = b.lo ∧ (loB b).hi = (hiB b).lo ∧ (hiB b).hi = b.hi := by
 obtain ⟨f, hfe⟩ : ∃ f, b.f = f + 1 := ⟨b.f - 1, by omega⟩
 unfold loB hiB Bk.lo Bk.hi
 simp only [hfe, Nat.add_sub_cancel]
 exact ⟨(dblA b.k f).symm, trivial, (dblB b.k f).symm⟩
theorem loB_fit {b : Bk} (h : fitB b) (hf : 0 < b.f) : fitB (loB b) := by
 obtain ⟨h1, h2⟩ := h
 obtain ⟨q1, q2, q3⟩ := half_parts hf
 have := (hiB b).lo_lt_hi
 exact ⟨by show b.f - 1 ≤ wid b.v; omega, by show (loB b).hi ≤ 2 ^ wid b.v; omega⟩
theorem hiB_fit {b : Bk} (h : fitB b) (hf : 0 < b.f) : fitB (hiB b) := by
 obtain ⟨h1, h2⟩ := h
 obtain ⟨q1, q2, q3⟩ := half_parts hf
 exact ⟨by show b.f - 1 ≤ wid b.v; omega, by show (hiB b).hi ≤ 2 ^ wid b.v; omega⟩
theorem split_eq {b : Bk} (h : fitB b) (hf : 0 < b.f) : splitF (ofB b) = some (ofB (loB b), ofB (hiB b), ()) := by
 have hl := loB_fit h hf
 obtain ⟨q1, q2, q3⟩ := half_parts hf
 have hw := wid_top b.v
 have e1 : (⟨(ofB b).ad, (ofB b).bits + 1⟩ : Pf) = ofB (loB b) := by
  unfold ofB
  have g1 : (loB b).k * 2 ^ (loB b).f = b.k * 2 ^ b.f := q1
  have g2 : ((wid b.v - b.f : Nat) : Int) + 1 = ((wid b.v - (b.f - 1) : Nat) : Int) := by have := h.1; omega
  simp only [g1, g2]
  rfl
 obtain ⟨r1, r2⟩ := ofB_ok hl
 have hlast := last_eq r1.1 r1.2
 obtain ⟨l1, l2⟩ := last_num r1.1 r1.2
 have hwf := (last_in r1.1 r1.2).1.wf
 have hnum : (lastA (ofB (loB b))).num + 1 = (hiB b).lo := by
  have g1 := toB_hi r1
  have g2 := toB_lo r1
  have hp := Nat.two_pow_pos (free (ofB (loB b)))
  rw [r2] at g1 g2
  rw [← q2, l1]
  omega
 have hv : (lastA (ofB (loB b))).v6 = b.v := l2
 have hlt : (lastA (ofB (loB b))).num + 1 < 2 ^ wid b.v := by
  have := (hiB b).lo_lt_hi
  have := h.2
  omega
 have e2 : addr_After_t (lastA (ofB (loB b))) = some (ofNum b.v (hiB b).lo, true, ()) := by
  have := addr_After_eq hlt
  rw [hnum, ← hv, ofNum_num _ hwf] at this
  rw [this, hv]
 unfold splitF
 rw [e1, hlast, bind_s, e2, bind_s, req_of (i64ok_of (by show -9223372036854775808 ≤ ((wid b.v - b.f : Nat) : Int) + 1; omega) (by show ((wid b.v - b.f : Nat) : Int) + 1 < 9223372036854775808; omega))]
 have e3 : (⟨ofNum b.v (hiB b).lo, (ofB b).bits + 1⟩ : Pf) = ofB (hiB b) := by
  unfold ofB
  have g2 : ((wid b.v - b.f : Nat) : Int) + 1 = ((wid b.v - (b.f - 1) : Nat) : Int) := by have := h.1; omega
  simp only [g2]
  rfl
 rw [e3]
theorem upB_fit {b : Bk} (h : fitB b) (hf : b.f < wid b.v) : fitB (upB b) := by
 obtain ⟨h1, h2⟩ := h
 refine ⟨by show b.f + 1 ≤ wid b.v; omega, ?_⟩
 obtain ⟨d, hd⟩ : ∃ d, wid b.v = b.f + 1 + d := ⟨wid b.v - (b.f + 1), by omega⟩
 unfold Bk.hi at h2
 unfold upB Bk.hi
 simp only
 have e1 : 2 ^ (b.f + 1 + d) = 2 ^ d * 2 ^ (b.f + 1) := by rw [Nat.pow_add, Nat.mul_comm]
 have e2 : 2 ^ d * 2 ^ (b.f + 1) = 2 ^ d * 2 * 2 ^ b.f := by rw [Nat.pow_succ, Nat.mul_comm (2 ^ b.f) 2, Nat.mul_assoc]
 rw [hd, e1] at h2 ⊢
 rw [e2] at h2
 have h3 : b.k + 1 ≤ 2 ^ d * 2 := Nat.le_of_mul_le_mul_right h2 (Nat.two_pow_pos b.f)
 exact Nat.mul_le_mul_right _ (by omega)
theorem join_eq {a b : Pf} (ha : rtP a) (hb : rtP b) : ∃ w, joinF a b = some (w, decide (sib (toB a) (toB b)), ()) ∧ (sib (toB a) (toB b) → w = ofB (upB (toB a)) ∧ fitB (upB (toB a))) := by
 have fa := free_bits ha.2
 have fb := free_bits hb.2
 obtain ⟨a0, a1⟩ := chkP_bits ha.2
 have hfa := toB_fit ha
 have hfb := toB_fit hb
 have hwa := wid_top a.ad.v6
 unfold joinF
 by_cases h0 : a.bits = 0
 ·have hs : ¬ sib (toB a) (toB b) := by
   rintro ⟨s1, s2, s3, s4⟩
   have e1 : free a = wid a.ad.v6 := by omega
   have h2 := hfb.2
   have hl : (toB b).lo = ((toB a).k + 1) * 2 ^ (wid a.ad.v6) := by
    unfold Bk.lo
    rw [s4, ← s2]
    show ((toB a).k + 1) * 2 ^ free a = _
    rw [e1]
   have hl2 := (toB b).lo_lt_hi
   rw [← s1] at h2
   have e2 : (toB a).v = a.ad.v6 := rfl
   rw [e2] at h2
   have : 1 * 2 ^ (wid a.ad.v6) ≤ ((toB a).k + 1) * 2 ^ (wid a.ad.v6) := Nat.mul_le_mul_right _ (by omega)
   omega
  refine ⟨⟨⟨false, 0, 0⟩, 0⟩, ?_, fun hh => absurd hh hs⟩
  rw [decide_eq_true h0, cond_true, br_true, decide_eq_false hs]
 rw [decide_eq_false h0, cond_false]
 by_cases h1 : a.bits = b.bits
 rotate_left
 ·have hs : ¬ sib (toB a) (toB b) := by
   rintro ⟨s1, s2, _, _⟩
   have s1 : a.ad.v6 = b.ad.v6 := s1
   have s2 : free a = free b := s2
   rw [s1] at fa
   omega
  refine ⟨⟨⟨false, 0, 0⟩, 0⟩, ?_, fun hh => absurd hh hs⟩
  rw [decide_eq_false h1, Bool.not_false, cond_true, br_true, decide_eq_false hs]
 rw [decide_eq_true h1, Bool.not_true, cond_false]
 by_cases hv : a.ad.v6 = b.ad.v6
 rotate_left
 ·have hs : ¬ sib (toB a) (toB b) := fun hh => hv hh.1
  refine ⟨⟨⟨false, 0, 0⟩, 0⟩, ?_, fun hh => absurd hh hs⟩
  have e : beqB a.ad.v6 b.ad.v6 = false := by
   cases hx : a.ad.v6 <;> cases hy : b.ad.v6 <;> first | rfl | (rw [hx, hy] at hv; exact absurd rfl hv)
  rw [e, Bool.not_false, br_true, decide_eq_false hs]
 rw [show beqB a.ad.v6 b.ad.v6 = true by rw [hv]; cases b.ad.v6 <;> rfl, Bool.not_true, br_false]
 have hflt : (toB a).f < wid (toB a).v := by show free a < wid a.ad.v6; omega
 have hup := upB_fit hfa hflt
 have hw : (⟨cutA a.ad (a.bits - 1), a.bits - 1⟩ : Pf) = ofB (upB (toB a)) := by
  have e1 : wid a.ad.v6 - (a.bits - 1).toNat = free a + 1 := by omega
  have e2 : a.bits - 1 = ((wid a.ad.v6 - (free a + 1) : Nat) : Int) := by omega
  have e3 : cutN a.ad.num (free a + 1) = (toB a).k / 2 * 2 ^ (free a + 1) := by
   unfold cutN toB
   simp only
   rw [Nat.div_div_eq_div_mul, ← Nat.pow_succ]
  unfold ofB cutA upB
  rw [e1, e3, e2]
  rfl
 have hcut := prefix_Cut_eq a.ad ha.1.1.wf (a.bits - 1) (by omega) (by omega)
 have hsp := split_eq hup (show 0 < (upB (toB a)).f from Nat.succ_pos _)
 rw [← hw] at hsp
 rw [req_of (i64ok_of (by omega) (by omega)), hcut, bind_s, hsp, bind_s]
 simp only [eqPf_eq]
 have hlo : loB (upB (toB a)) = ⟨(toB a).v, (toB a).f, 2 * ((toB a).k / 2)⟩ := rfl
 have hhi : hiB (upB (toB a)) = ⟨(toB a).v, (toB a).f, 2 * ((toB a).k / 2) + 1⟩ := rfl
 have fl := loB_fit hup (show 0 < (upB (toB a)).f from Nat.succ_pos _)
 have fh := hiB_fit hup (show 0 < (upB (toB a)).f from Nat.succ_pos _)
 have q1 : (ofB (loB (upB (toB a))) = a) ↔ (toB a).k % 2 = 0 := by
  constructor
  ·intro hh
   have e := (ofB_ok fl).2
   rw [hh, hlo] at e
   have := congrArg Bk.k e
   simp only at this
   omega
  ·intro hh
   refine toB_inj (ofB_ok fl).1 ha ?_
   rw [(ofB_ok fl).2, hlo, show 2 * ((toB a).k / 2) = (toB a).k by omega]
 have hvf : (toB b).v = (toB a).v ∧ (toB b).f = (toB a).f := ⟨hv.symm, by show free b = free a; rw [hv] at fa; omega⟩
 have q2 : (ofB (hiB (upB (toB a))) = b) ↔ (toB b).k = 2 * ((toB a).k / 2) + 1 := by
  constructor
  ·intro hh
   have e := (ofB_ok fh).2
   rw [hh, hhi] at e
   exact congrArg Bk.k e
  ·intro hh
   refine toB_inj (ofB_ok fh).1 hb ?_
   rw [(ofB_ok fh).2, hhi, ← hh, ← hvf.1, ← hvf.2]
 have hs : sib (toB a) (toB b) ↔ ofB (loB (upB (toB a))) = a ∧ ofB (hiB (upB (toB a))) = b := by
  rw [q1, q2]
  unfold sib
  rw [hvf.1, hvf.2]
  constructor
  ·rintro ⟨_, _, g1, g2⟩; exact ⟨g1, by omega⟩
  ·rintro ⟨g1, g2⟩; exact ⟨rfl, rfl, g1, by omega⟩
 refine ⟨_, ?_, fun _ => ⟨hw, hup⟩⟩
 by_cases g1 : ofB (loB (upB (toB a))) = a
 ·rw [decide_eq_true g1, br_true]
  have : decide (sib (toB a) (toB b)) = decide (ofB (hiB (upB (toB a))) = b) := decide_eq_decide.2 (by rw [hs]; exact ⟨fun h => h.2, fun h => ⟨g1, h⟩⟩)
  rw [this]
 ·have hns : ¬ sib (toB a) (toB b) := fun hh => g1 (hs.1 hh).1
  rw [decide_eq_false g1, br_false, decide_eq_false hns]
end Go.Ma
namespace Go.Ma
open Go
end Go.Ma
namespace Go.Ma
open Go
theorem last_bits {n f w : Nat} (hf : f ≤ w) (h : n % 2 ^ f = 0) : bitsTo (n + (2 ^ f - 1)) (w - 1) w = (bitsTo n (w - 1) w).take (w - f) ++ List.replicate f 49 := by
 have hp := Nat.two_pow_pos f
 obtain ⟨k, hk⟩ := Nat.dvd_of_mod_eq_zero h
 have hlen : (bitsTo n (w - 1) w).length = w := by simp [bitsTo]
 have hlt : ((bitsTo n (w - 1) w).take (w - f)).length = w - f := by rw [List.length_take, hlen]; omega
 apply List.ext_getElem?
 intro i
 by_cases h2 : i < w - f
 ·rw [List.getElem?_append_left (by omega), List.getElem?_take_of_lt h2, zq2, zq2, if_pos (by omega), if_pos (by omega)]
  congr 1
  apply bitV_congr
  rw [hk, Nat.testBit_two_pow_mul_add _ (by omega), if_neg (by omega)]
  have := Nat.testBit_two_pow_mul_add k (b := 0) hp (w - 1 - i)
  rw [Nat.add_zero, if_neg (by omega)] at this
  exact this.symm
 ·rw [List.getElem?_append_right (by omega), hlt, zq2, List.getElem?_replicate]
  by_cases hi : i < w
  ·rw [if_pos hi, if_pos (by omega)]
   congr 1
   unfold bitV
   rw [if_pos]
   rw [hk, Nat.testBit_two_pow_mul_add _ (by omega), if_pos (by omega), Nat.testBit_two_pow_sub_one]
   simp
   omega
  ·rw [if_neg hi, if_neg (by omega)]
theorem cat_ofBytes (x y : List UInt8) : catS (ofBytes x) (ofBytes y) = ofBytes (x ++ y) := by
 apply ByteArray.ext
 simp [catS, ofBytes]
theorem fill_loop (p : Pf) (z : Ad) : ∀ (N k : Nat) (x : List UInt8), x.length + k = wid p.ad.v6 → k < N →
  loopN R_filled_L2 N (((⟨#[49]⟩, ()), (), (), (ofBytes x, ()), ()), ((p, ()), (z, ()), ())) = some (((), (ofBytes (x ++ List.replicate k 49), ()), ()), ((z, ()), ()))
 | 0, _, _, _, h => by omega
 | N + 1, k, x, hx, hN => by
  have hw := wid_le p.ad.v6
  rw [zq6]
  simp only [R_filled_L2]
  rw [R_wide_eq, bind_s, show lenS (ofBytes x) = (x.length : Int) by unfold lenS; rw [ofBytes_size]]
  cases k with
  | zero =>
   rw [decide_eq_false (show ¬ (x.length : Int) < ((wid p.ad.v6 : Nat) : Int) by omega), br_false]
   simp
  | succ k =>
   have hc : catS (ofBytes x) ⟨#[49]⟩ = ofBytes (x ++ [49]) := cat_ofBytes x [49]
   rw [decide_eq_true (show (x.length : Int) < ((wid p.ad.v6 : Nat) : Int) by omega), br_true]
   rw [hc, req_of (by unfold roomS; rw [ofBytes_size]; exact Nat.ble_eq_true_of_le (by simp; omega)), fill_loop p z N k (x ++ [49]) (by simp; omega) (by omega)]
   rw [List.append_assoc]
   rfl
theorem R_LastOf_eq {p : Pf} (hp : p.In) (cp : chkP p = 0) : R_LastOf_t p = some (lastA p, ()) := by
 obtain ⟨b1, b2⟩ := chkP_bits cp
 have hw := wid_le p.ad.v6
 have hca := chkP_ad cp
 have hm : p.ad.num % 2 ^ (wid p.ad.v6 - p.bits.toNat) = 0 := (cutN_iff _ _).1 ((cutA_iff hp.1.wf p.bits).1 (chkP_cut cp))
 have hn := right_num p.ad ⟨hp.1.wf, hca⟩
 have hlen : (bitsA p.ad).length = wid p.ad.v6 := bitsA_len p.ad
 have hsub : subS (ofBytes (bitsA p.ad)) 0 p.bits = ofBytes ((bitsA p.ad).take p.bits.toNat) := by
  apply ByteArray.ext
  simp [subS, ofBytes, ByteArray.data_extract]
 unfold R_LastOf_t R_filled_t
 rw [R_Bits_eq hp.1, bind_s]
 simp only []
 rw [req_of (by unfold lenS; rw [ofBytes_size, hlen]; simp; omega), hsub, fill_loop p _ FUEL (wid p.ad.v6 - p.bits.toNat) _ (by rw [List.length_take, hlen]; omega) (fuel_gt (by omega)), bind_s]
 have hlast : (bitsA p.ad).take p.bits.toNat ++ List.replicate (wid p.ad.v6 - p.bits.toNat) 49 = bitsTo (p.ad.num + (2 ^ (wid p.ad.v6 - p.bits.toNat) - 1)) (wid p.ad.v6 - 1) (wid p.ad.v6) := by
  rw [last_bits (by omega) hm, bitsA_eq hp.1.wf hca, show wid p.ad.v6 - (wid p.ad.v6 - p.bits.toNat) = p.bits.toNat by omega]
 have hlt : p.ad.num + (2 ^ (wid p.ad.v6 - p.bits.toNat) - 1) < 2 ^ wid p.ad.v6 := by
  have hpp := Nat.two_pow_pos (wid p.ad.v6 - p.bits.toNat)
  have h5 : 2 ^ wid p.ad.v6 = 2 ^ (wid p.ad.v6 - p.bits.toNat) * 2 ^ (p.bits.toNat) := by rw [← Nat.pow_add]; congr 1; omega
  obtain ⟨m, hmm⟩ := Nat.dvd_of_mod_eq_zero hm
  rw [hmm, h5] at hn ⊢
  have h6 := Nat.lt_of_mul_lt_mul_left hn
  have h7 : 2 ^ (wid p.ad.v6 - p.bits.toNat) * m + 2 ^ (wid p.ad.v6 - p.bits.toNat) ≤ 2 ^ (wid p.ad.v6 - p.bits.toNat) * 2 ^ (p.bits.toNat) := by
   calc 2 ^ (wid p.ad.v6 - p.bits.toNat) * m + 2 ^ (wid p.ad.v6 - p.bits.toNat) = 2 ^ (wid p.ad.v6 - p.bits.toNat) * (m + 1) := by rw [Nat.mul_add, Nat.mul_one]
    _ ≤ _ := Nat.mul_le_mul_left _ h6
  omega
 simp only []
 rw [hlast, R_AddrOf_eq hlt, bind_s]
 rfl
end Go.Ma
namespace Go.Ma
open Go
def numR (l : List UInt8) : Option Nat := if 1 ≤ l.length ∧ l.length ≤ 4 then Lib.decFrom 0 l else none
theorem decFrom_lt : ∀ (l : List UInt8) (a n : Nat), Lib.decFrom a l = some n → n < (a + 1) * 10 ^ l.length
 | [], a, n, h => by
  simp only [Lib.decFrom, Option.some.injEq] at h
  subst h
  simp
 | c :: r, a, n, h => by
  rw [Lib.decFrom] at h
  cases hc : Lib.digitVal c with
  | none => rw [hc] at h; cases h
  | some d =>
   rw [hc] at h
   have h1 := decFrom_lt r _ n h
   have hd := (digitVal_some hc).1
   have : (a * 10 + d + 1) * 10 ^ r.length ≤ (a + 1) * 10 ^ (c :: r).length := by
    rw [List.length_cons, Nat.pow_succ, Nat.mul_comm (10 ^ r.length) 10, ← Nat.mul_assoc]
    exact Nat.mul_le_mul_right _ (by omega)
   omega
theorem numR_lt {l : List UInt8} {n : Nat} (h : numR l = some n) : n < 10000 := by
 unfold numR at h
 split at h
 ·rename_i hl
  have h1 := decFrom_lt l 0 n h
  have : 10 ^ l.length ≤ 10 ^ 4 := Nat.pow_le_pow_right (by omega) hl.2
  omega
 ·cases h
def numA (l : List UInt8) : Int × Bool × Unit := match numR l with | some n => ((n : Int), decide (Lib.decDigits n = l), ()) | none => (0, false, ())
theorem number_loop (s : ByteArray) (hs : s.size ≤ 4) : ∀ (N i a : Nat), s.size - i < N → i ≤ s.size → a < 10 ^ i →
  loopN R_NumberOf_L5 N (((s, ()), ((a : Int), ()), ((i : Int), ()), ()), ()) = some (match Lib.decFrom a (s.data.toList.drop i) with | some n => Sum.inr (((s, ()), ((n : Int), ()), ()), ()) | none => Sum.inl (((0, ()), (false, ()), ()), ())) := by
 intro N
 induction N with
 | zero => intro i a h; omega
 | succ N ih =>
  intro i a hN hi ha
  have hp : 10 ^ i ≤ 10 ^ 4 := Nat.pow_le_pow_right (by omega) (by omega)
  rw [zq6]
  simp only [R_NumberOf_L5]
  by_cases h : i = s.size
  ·rw [decide_eq_false (show ¬ (i : Int) < lenS s by unfold lenS; omega), br_false, List.drop_of_length_le (by rw [data_len]; omega)]
   rfl
  ·obtain ⟨b, hb⟩ : ∃ b, s.data.toList[i]? = some b := ⟨_, List.getElem?_eq_getElem (by rw [data_len]; omega)⟩
   have hin : inRange (i : Int) (lenS s) = true := inRange_of (by omega) (by unfold lenS; omega)
   have hbl := b.toNat_lt
   have hpw : 10 ^ (i + 1) = 10 * 10 ^ i := by rw [Nat.pow_succ, Nat.mul_comm]
   rw [decide_eq_true (show (i : Int) < lenS s by unfold lenS; omega), br_true, hin, req_true, req_true, byteAt_eq hb, conv_byte, drop_cons hb, R_between_eq, bind_s, Lib.decFrom]
   unfold Lib.digitVal
   by_cases h1 : 48 ≤ b.toNat ∧ b.toNat ≤ 57
   ·rw [if_pos h1]
    simp only [show betw (b.toNat : Int) 48 57 = true from betw_iff.2 ⟨by omega, by omega⟩, Bool.not_true, br_false]
    rw [req_of (i64ok_of (by omega) (by omega)), req_of (i64ok_of (by omega) (by omega)), req_of (i64ok_of (by omega) (by omega)), req_of (i64ok_of (by omega) (by omega))]
    rw [show 10 * (a : Int) + (b.toNat : Int) - 48 = ((a * 10 + (b.toNat - 48) : Nat) : Int) by omega, show (i : Int) + 1 = ((i + 1 : Nat) : Int) by omega]
    exact ih (i + 1) _ (by omega) (by omega) (by omega)
   ·rw [if_neg h1]
    simp only [show betw (b.toNat : Int) 48 57 = false from Bool.eq_false_iff.2 fun hh => h1 (by have := betw_iff.1 hh; omega), Bool.not_false, br_true]
theorem NumberOf_t (s : ByteArray) : R_NumberOf_t s = some (numA s.data.toList) := by
 unfold R_NumberOf_t numA numR
 rw [R_between_eq, bind_s, data_len]
 by_cases h : 1 ≤ s.size ∧ s.size ≤ 4
 ·rw [if_pos h]
  have hb : betw (lenS s) 1 4 = true := betw_iff.2 ⟨by unfold lenS; omega, by unfold lenS; omega⟩
  have := number_loop s h.2 FUEL 0 0 (fuel_gt (by omega)) (by omega) (by decide)
  rw [List.drop_zero] at this
  simp only [hb, Bool.not_true, br_false]
  rw [show (0 : Int) = ((0 : Nat) : Int) from rfl, this, bind_s]
  cases hF : Lib.decFrom 0 s.data.toList with
  | none => rfl
  | some n =>
   have hn := decFrom_lt _ _ _ hF
   rw [data_len] at hn
   have hp : 10 ^ s.size ≤ 10 ^ 4 := Nat.pow_le_pow_right (by omega) h.2
   simp only [sumC]
   rw [Digits_dec (by omega), bind_s, strcmp_eql]
   have : decide (ofBytes (Lib.decDigits n) = s) = decide (Lib.decDigits n = s.data.toList) := by
    refine decide_eq_decide.2 ⟨fun h => by rw [← h, ofBytes_list], fun h => by rw [h, ofBytes_data]⟩
   rw [this]
 ·rw [if_neg h]
  have hb : betw (lenS s) 1 4 = false := Bool.eq_false_iff.2 fun hh => h (by have := betw_iff.1 hh; unfold lenS at this; omega)
  simp only [hb, Bool.not_false, br_true]
theorem atoi_from {l : List UInt8} {n : Nat} (h1 : 1 ≤ l.length) (h4 : l.length ≤ 4) (h : Lib.decFrom 0 l = some n) : Lib.atoiAll l = .ok (n : Int) := by
 rw [Lib.atoiAll_short _ (by omega)]
 have : Lib.atoi l = some (n : Int) := by
  cases l with
  | nil => simp at h1
  | cons b r =>
   have hb : 48 ≤ b.toNat := by
    rw [Lib.decFrom] at h
    cases hd : Lib.digitVal b with
    | none => rw [hd] at h; cases h
    | some d =>
     have := (digitVal_some hd).2.2
     omega
   have e1 : (b == 45) = false := beq_eq_false_iff_ne.2 fun e => by subst e; simp at hb
   have e2 : (b == 43) = false := beq_eq_false_iff_ne.2 fun e => by subst e; simp at hb
   simp only [Lib.atoi, e1, e2, Bool.false_eq_true, if_false, Lib.decNat, List.isEmpty_cons, h, Option.map_some]
 rw [this]
 rfl
theorem list_eq (s : ByteArray) (l : List UInt8) : ((⟨l.toArray⟩ : ByteArray) == s) = decide (l = s.data.toList) := by
 rw [Go.beq_toListBytes, Bool.eq_iff_iff, beq_iff_eq, decide_eq_true_iff]
 have e1 : (⟨l.toArray⟩ : ByteArray).toList = l := by rw [toList_data]
 rw [e1, toList_data]
theorem digits_num (s : ByteArray) : digB s = (numA s.data.toList).2.1 ∧ (digB s = true → digN s = (numA s.data.toList).1) := by
 have hl : s.data.toList.length = s.size := data_len s
 unfold numA numR digB digN
 rw [hl]
 by_cases h : 1 ≤ s.size ∧ s.size ≤ 4
 ·rw [if_pos h]
  cases hF : Lib.decFrom 0 s.data.toList with
  | some n =>
   rw [atoi_from (by omega) (by omega) hF]
   simp only [list_eq, Int.toNat_natCast]
   rw [decide_eq_true (show (0 : Int) ≤ (n : Int) by omega), decide_eq_true h.2]
   exact ⟨by simp, fun _ => by first | rfl | trivial⟩
  | none =>
   have key : ∀ v : Int, Lib.atoiAll s.data.toList = .ok v → ((decide (0 ≤ v) && (decide (s.size ≤ 4) && ((⟨(Lib.decDigits v.toNat).toArray⟩ : ByteArray) == s))) = false) := fun v _ => by
    rw [Bool.eq_false_iff]
    intro hh
    simp only [list_eq, Bool.and_eq_true, decide_eq_true_iff] at hh
    have := decFrom_dec v.toNat
    rw [hh.2.2, hF] at this
    cases this
   cases ha : Lib.atoiAll s.data.toList with
   | ok v =>
    have := key v ha
    simp only [this]
    exact ⟨trivial, fun h => (by cases h)⟩
   | _ => exact ⟨by first | rfl | trivial, fun h => (by cases h)⟩
 ·rw [if_neg h]
  cases ha : Lib.atoiAll s.data.toList with
  | ok v =>
   have : (decide (0 ≤ v) && (decide (s.size ≤ 4) && ((⟨(Lib.decDigits v.toNat).toArray⟩ : ByteArray) == s))) = false := by
    rw [Bool.eq_false_iff]
    intro hh
    simp only [list_eq, Bool.and_eq_true, decide_eq_true_iff] at hh
    obtain ⟨b, r, hb⟩ := dec_ne v.toNat
    rw [hh.2.2] at hb
    have : 1 ≤ s.size := by rw [← hl, hb]; simp
    omega
   simp only [this]
   exact ⟨trivial, fun h => (by cases h)⟩
  | _ => exact ⟨by first | rfl | trivial, fun h => (by cases h)⟩
def textP (p : Pf) : List UInt8 := textA p.ad ++ 47 :: Lib.decDigits p.bits.toNat
theorem textA_len {a : Ad} (h : a.wf) (hc : chkA a = 0) : (textA a).length ≤ 39 := by
 obtain ⟨T, t1, _, t3⟩ := text_back h hc
 have := Text_A h
 rw [t1] at this
 have e : ofBytes T = ofBytes (textA a) := by
  injection this with this
  injection this
 rw [← ofBytes_inj e]
 exact t3
theorem prefix_Text_P {p : Pf} (hp : p.In) (hc : chkP p = 0) : prefix_Text_t p = some (ofBytes (textP p), ()) := by
 obtain ⟨b0, b1⟩ := chkP_bits hc
 have hw := wid_top p.ad.v6
 obtain ⟨n, hn⟩ : ∃ n : Nat, p.bits = (n : Int) := ⟨p.bits.toNat, by omega⟩
 have hl := textA_len hp.1.wf (chkP_ad hc)
 have hd := dec_len 3 n (by omega)
 unfold prefix_Text_t textP
 rw [Text_A hp.1.wf, bind_s, hn]
 have ec : catS (ofBytes (textA p.ad)) (⟨#[47]⟩ : ByteArray) = ofBytes (textA p.ad ++ [47]) := catB _ [47]
 simp only [ec]
 rw [req_of (roomB _ (by simp; omega)), itoa_any (by omega), bind_s]
 simp only [show Wd (Lib.decDigits n) = ofBytes (Lib.decDigits n) from rfl, catB, Int.toNat_natCast]
 rw [req_of (roomB _ (by simp; omega)), List.append_assoc]
 rfl
theorem PrefixText_t {p : Pf} (hp : p.In) (hc : chkP p = 0) : R_PrefixText_t p = some (ofBytes (textP p), ()) := by
 obtain ⟨b0, b1⟩ := chkP_bits hc
 have hw := wid_top p.ad.v6
 obtain ⟨n, hn⟩ : ∃ n : Nat, p.bits = (n : Int) := ⟨p.bits.toNat, by omega⟩
 have hl := textA_len hp.1.wf (chkP_ad hc)
 have hd := dec_len 3 n (by omega)
 unfold R_PrefixText_t textP
 rw [TextOf_t hp.1, bind_s, hn]
 have ec : catS (ofBytes (textA p.ad)) (⟨#[47]⟩ : ByteArray) = ofBytes (textA p.ad ++ [47]) := catB _ [47]
 simp only [ec]
 rw [req_of (roomB _ (by simp; omega)), Digits_dec (by omega), bind_s]
 simp only [catB, Int.toNat_natCast]
 rw [req_of (roomB _ (by simp; omega)), List.append_assoc]
 rfl
def pz : Pf := ⟨⟨false, 0, 0⟩, 0⟩
def pfx2 (x y : List UInt8) : Pf × Int × Unit := match toldF (ofBytes x), numA y with
 | some a, (n, true, _) => if chkP ⟨a, n⟩ = 0 then (⟨a, n⟩, 0, ()) else (pz, chkP ⟨a, n⟩, ())
 | _, _ => (pz, 1, ())
def pfxA (l : List UInt8) : Pf × Int × Unit := match splL 47 [] l with
 | [x, y] => pfx2 x y
 | _ => (pz, 1, ())
theorem numA_in (l : List UInt8) : i64In (numA l).1 := by
 unfold numA
 cases h : numR l with
 | none => exact ⟨by show (-9223372036854775808 : Int) ≤ 0; omega, by show (0 : Int) < 9223372036854775808; omega⟩
 | some n =>
  have := numR_lt h
  exact ⟨by show -9223372036854775808 ≤ (n : Int); omega, by show (n : Int) < 9223372036854775808; omega⟩
theorem told_in {s : ByteArray} {a : Ad} (h : toldF s = some a) : a.In := by
 obtain ⟨h1, h2, h3, h4⟩ := (toldF_right h).1
 exact ⟨⟨h1, h2⟩, h3, h4⟩
theorem PrefixOf_t (s : ByteArray) (hs : s.size ≤ 1048576) : R_PrefixOf_t s = some (pfxA s.data.toList) := by
 have hsp := splitAt_t 47 s hs
 rw [show ((47 : UInt8).toNat : Int) = 47 from rfl] at hsp
 unfold R_PrefixOf_t pfxA
 rw [hsp, bind_s]
 have hsz : ∀ x ∈ splL 47 [] s.data.toList, x.length ≤ 1048576 := fun x hx => by
  have := splL_size 47 s.data.toList [] x hx
  rw [data_len] at this
  simp at this
  omega
 generalize splL 47 [] s.data.toList = l at hsz
 have hlen : decide (lenL (l.map ofBytes) = 2) = decide (l.length = 2) := decide_eq_decide.2 (by unfold lenL; rw [List.length_map]; omega)
 simp only [hlen]
 match l, hsz with
 | [], _ => rfl
 | [x], _ => rfl
 | x :: y :: z :: r, _ =>
  rw [decide_eq_false (by simp), Bool.not_false, br_true]
  rfl
 | [x, y], hsz =>
  have hx := hsz x (by simp)
  rw [decide_eq_true (by rfl), Bool.not_true, br_false]
  have e2 : lenL (List.map ofBytes [x, y]) = 2 := rfl
  have g0 : geti (List.map ofBytes [x, y]) 0 = some (ofBytes x) := rfl
  have g1 : geti (List.map ofBytes [x, y]) 1 = some (ofBytes y) := rfl
  rw [e2, req_of (by decide), g0, bind_s, ParseOf_t _ (by rw [ofBytes_size]; exact hx), bind_s, req_of (by decide), g1, bind_s, NumberOf_t, bind_s, ofBytes_list]
  simp only
  unfold pfx2 parsA
  cases ht : toldF (ofBytes x) with
  | none =>
   simp only [Bool.not_false, br_true, bind_s]
   rfl
  | some a =>
   have hn := numA_in y
   rcases hq : numA y with ⟨n, b, u⟩
   rw [hq] at hn
   simp only [Bool.not_true, br_false, bind_s]
   cases b
   ·simp only [Bool.not_false, br_true]
    rfl
   ·have hp : (⟨a, n⟩ : Pf).In := ⟨told_in ht, hn.1, hn.2⟩
    simp only [Bool.not_true, br_false, R_CheckPrefix_eq hp, bind_s]
    by_cases h0 : chkP ⟨a, n⟩ = 0
    ·rw [if_pos h0, h0]
     rfl
    ·rw [if_neg h0, decide_eq_false h0]
     rfl
theorem first47 : ∀ {l : List UInt8}, (47 : UInt8) ∈ l → ∃ x y, l = x ++ 47 :: y ∧ (47 : UInt8) ∉ x
 | [], h => by simp at h
 | c :: r, h => by
  by_cases hc : c = 47
  ·subst hc
   exact ⟨[], r, rfl, by simp⟩
  ·have : (47 : UInt8) ∈ r := by
    rcases List.mem_cons.1 h with h | h
    ·exact absurd h.symm hc
    ·exact h
   obtain ⟨x, y, rfl, hx⟩ := first47 this
   refine ⟨c :: x, y, rfl, ?_⟩
   intro hm
   rcases List.mem_cons.1 hm with hm | hm
   ·exact hc hm.symm
   ·exact hx hm
theorem splL_first (c : UInt8) : ∀ (x w y : List UInt8), c ∉ x → splL c w (x ++ c :: y) = (w ++ x) :: splL c [] y
 | [], w, y, _ => by rw [List.nil_append, splL_hit, List.append_nil]
 | a :: x, w, y, h => by
  have h1 : a ≠ c := fun e => h (by simp [e])
  rw [List.cons_append, splL_miss h1, splL_first c x _ y (fun e => h (by simp [e])), List.append_assoc]
  rfl
theorem cut_none47 {s : ByteArray} (h : (47 : UInt8) ∉ s.data.toList) : strings_Cut_t s (⟨#[47]⟩ : ByteArray) = some (s, ByteArray.empty, false, ()) := by
 have hi : zq5 s (⟨#[47]⟩ : ByteArray) = some (Lib.indexByte s.data.toList 47, ()) := rfl
 unfold strings_Cut_t internal_stringslite_Cut_t
 rw [hi, bind_s, byte_none _ 47 h]
 rfl
theorem num47 {y : List UInt8} (h : (47 : UInt8) ∈ y) : (numA y).2.1 = false := by
 unfold numA
 cases hn : numR y with
 | none => rfl
 | some n =>
  simp only
  rw [decide_eq_false_iff_not]
  intro e
  rw [← e] at h
  exact dec_no n 47 (by decide) h
theorem prefix_Parse_A (s : ByteArray) (hs : s.size ≤ 1048576) : prefix_Parse_t s = some (pfxA s.data.toList) := by
 unfold prefix_Parse_t
 by_cases hm : (47 : UInt8) ∈ s.data.toList
 ·obtain ⟨x, y, e, hx⟩ := first47 hm
  have hsz : x.length + 1 + y.length = s.size := by
   rw [← data_len s, e]
   simp
   omega
  have hc := cut_at47 (D := y) hx (by omega)
  have es : Wd (x ++ 47 :: y) = s := by rw [← e]; exact ofBytes_data s
  rw [es] at hc
  rw [hc, bind_s]
  simp only
  have sx : (Wd x).size ≤ 4294967200 := by rw [wd_size]; omega
  have sy : (Wd y).size ≤ 1073741824 := by rw [wd_size]; omega
  rw [addr_Parse_eq sx, bind_s, digits_any sy, bind_s]
  obtain ⟨d1, d2⟩ := digits_num (Wd y)
  rw [wd_list] at d1 d2
  have hP : pfxA s.data.toList = pfx2 x y := by
   unfold pfxA
   rw [e, splL_first 47 x [] y hx, List.nil_append]
   by_cases hy : (47 : UInt8) ∈ y
   ·have h1 := num47 hy
    have h2 : pfx2 x y = (pz, 1, ()) := by
     unfold pfx2
     rcases hq : numA y with ⟨n, b, u⟩
     rw [hq] at h1
     simp only at h1
     subst h1
     cases toldF (ofBytes x) <;> rfl
    rw [h2]
    obtain ⟨x2, y2, e2, hx2⟩ := first47 hy
    rw [e2, splL_first 47 x2 [] y2 hx2]
    cases hs2 : splL 47 [] y2 with
    | nil => exact absurd hs2 (splL_ne _ _ _)
    | cons a r => rfl
   ·rw [splL_none hy]
    rfl
  rw [hP, d1]
  unfold parseA pfx2
  rw [show Wd x = ofBytes x from rfl]
  cases ht : toldF (ofBytes x) with
  | none =>
   simp only [Bool.not_true, br_false, bind_s]
   rfl
  | some a =>
   have hn := numA_in y
   rcases hq : numA y with ⟨n, b, u⟩
   rw [hq] at hn d1 d2
   simp only [decide_true, Bool.not_true, br_false, bind_s]
   cases b
   ·simp only [Bool.not_false, br_true]
    rfl
   ·have hp : (⟨a, n⟩ : Pf).In := ⟨told_in ht, hn.1, hn.2⟩
    rw [d2 d1]
    simp only [Bool.not_true, br_false, prefix_Check_eq hp, bind_s]
    by_cases h0 : chkP ⟨a, n⟩ = 0
    ·rw [if_pos h0, h0]
     rfl
    ·rw [if_neg h0, decide_eq_false h0]
     rfl
 ·rw [cut_none47 hm, bind_s]
  simp only
  rw [addr_Parse_eq (by omega), bind_s, digits_any (by decide), bind_s]
  have hP : pfxA s.data.toList = (pz, 1, ()) := by
   unfold pfxA
   rw [splL_none hm]
  rw [hP]
  first | done | rfl
theorem bitZ_half (k g i : Nat) : ((2 * k + 1) * 2 ^ g).testBit i = if i = g then true else (2 * k * 2 ^ g).testBit i := by
 rw [Nat.testBit_mul_two_pow, Nat.testBit_mul_two_pow]
 by_cases h : i = g
 ·subst h
  simp
 ·rw [if_neg h]
  by_cases hg : g ≤ i
  ·obtain ⟨s, rfl⟩ : ∃ s, i = g + 1 + s := ⟨i - (g + 1), by omega⟩
   rw [show g + 1 + s - g = s + 1 by omega, Nat.testBit_succ, Nat.testBit_succ]
   have e1 : (2 * k + 1) / 2 = k := by omega
   have e2 : 2 * k / 2 = k := by omega
   rw [e1, e2]
  ·rw [decide_eq_false hg, Bool.false_and, Bool.false_and]
theorem bitsZ_half {k g w : Nat} (hg : g < w) : (bitsTo (2 * k * 2 ^ g) (w - 1) w).set (w - (g + 1)) 49 = bitsTo ((2 * k + 1) * 2 ^ g) (w - 1) w := by
 apply List.ext_getElem?
 intro i
 rw [List.getElem?_set, zq2, zq2, zq3]
 by_cases hi : i < w
 ·by_cases he : w - (g + 1) = i
  ·rw [if_pos he, if_pos (by omega), if_pos hi]
   have hb : w - 1 - i = g := by omega
   unfold bitV
   rw [hb, bitZ_half, if_pos rfl]
   rfl
  ·rw [if_neg he, if_pos hi, if_pos hi]
   unfold bitV
   rw [bitZ_half, if_neg (show ¬ w - 1 - i = g by omega)]
 ·rw [if_neg (by omega), if_neg hi, if_neg hi]
theorem halvesZ_B {b : Bk} (h : fitB b) (hf : 0 < b.f) : R_HalvesOf_t (ofB b) = some (ofB (loB b), ofB (hiB b), ()) := by
 obtain ⟨v, f, k⟩ := b
 obtain ⟨g, rfl⟩ : ∃ g, f = g + 1 := ⟨f - 1, by simp only at hf; omega⟩
 obtain ⟨h1, h2⟩ := h
 simp only at h1
 have hw := wid_top v
 have hn : k * 2 ^ (g + 1) = 2 * k * 2 ^ g := dblA k g
 have hlt : (2 * k + 1) * 2 ^ g < 2 ^ wid v := by
  have e : (k + 1) * 2 ^ (g + 1) = (2 * k + 1 + 1) * 2 ^ g := dblB k g
  have h3 : (k + 1) * 2 ^ (g + 1) ≤ 2 ^ wid v := h2
  have : (2 * k + 1) * 2 ^ g < (2 * k + 1 + 1) * 2 ^ g := by
   have := Nat.two_pow_pos g
   rw [Nat.succ_mul (2 * k + 1)]
   omega
  omega
 have hlt0 : 2 * k * 2 ^ g < 2 ^ wid v := Nat.lt_of_le_of_lt (Nat.mul_le_mul_right _ (by omega)) hlt
 have hin := ofNum_inC hlt0
 have hc := ofNum_chkC hlt0
 have e0 : ofB ⟨v, g + 1, k⟩ = ⟨ofNum v (2 * k * 2 ^ g), ((wid v - (g + 1) : Nat) : Int)⟩ := by unfold ofB; simp only [hn]
 unfold R_HalvesOf_t
 rw [e0]
 simp only
 rw [R_Bits_eq hin, bind_s, bitsA_eq hin.wf hc, num_ofNum]
 have hv : (ofNum v (2 * k * 2 ^ g)).v6 = v := rfl
 rw [hv]
 simp only [ofBytes_size, zq3, ofBytes_list, Int.toNat_natCast]
 have q1 : Nat.ble (wid v) 1024 = true := by rw [Nat.ble_eq]; omega
 have q2 : (decide (0 ≤ ((wid v - (g + 1) : Nat) : Int)) && decide (((wid v - (g + 1) : Nat) : Int) < 1000)) = true := by
  rw [Bool.and_eq_true, decide_eq_true_iff, decide_eq_true_iff]
  omega
 have q3 : Nat.blt (wid v - (g + 1)) (wid v) = true := by rw [Nat.blt_eq]; omega
 rw [req_of q1, req_of q2, req_of q3, bitsZ_half (show g < wid v by omega)]
 have e1 : R_AddrOf_t ⟨(bitsTo ((2 * k + 1) * 2 ^ g) (wid v - 1) (wid v)).toArray⟩ = some (ofNum v ((2 * k + 1) * 2 ^ g), ()) := R_AddrOf_eq hlt
 rw [e1, bind_s]
 have e2 : ((wid v - (g + 1) : Nat) : Int) + 1 = ((wid v - g : Nat) : Int) := by omega
 rw [e2]
 rfl
def halvesZ (p : Pf) : Pf × Pf × Int × Unit := if chkP p ≠ 0 then (pz, pz, chkP p, ()) else if p.bits = (wid p.ad.v6 : Nat) then (pz, pz, 5, ()) else (ofB (loB (toB p)), ofB (hiB (toB p)), 0, ())
theorem wideZ_f {p : Pf} (hp : rtP p) (h : ¬ p.bits = (wid p.ad.v6 : Nat)) : 0 < (toB p).f := by
 obtain ⟨b0, b1⟩ := chkP_bits hp.2
 show 0 < wid p.ad.v6 - p.bits.toNat
 omega
theorem prefix_HalvesZ {p : Pf} (hp : p.In) : prefix_Halves_t p = some (halvesZ p) := by
 unfold prefix_Halves_t halvesZ
 rw [prefix_Check_eq hp, bind_s, prefix_Wide_eq, bind_s]
 by_cases hc : chkP p = 0
 ·have rp : rtP p := ⟨hp, hc⟩
  by_cases hb : p.bits = (wid p.ad.v6 : Nat)
  ·simp only [hc, hb, decide_true, br_true, bind_s, ne_eq, not_true, if_false, if_true]
   rfl
  ·have hs : prefix_Split_t p = some (ofB (loB (toB p)), ofB (hiB (toB p)), ()) := by
    have := split_eq (toB_fit rp) (wideZ_f rp hb)
    rw [ofB_toB rp] at this
    rw [prefix_Split_eq, this]
   simp only [hc, hb, decide_true, decide_false, br_true, br_false, bind_s, ne_eq, not_true, if_false, Bool.not_true, hs, dup_eq]
 ·simp only [hc, decide_false, br_false, bind_s, Bool.not_false, br_true, ne_eq, not_false_iff, if_true]
  rfl
def wholeZ (p q : Pf) : Pf × Int × Unit := if chkP p ≠ 0 then (pz, chkP p, ()) else if chkP q ≠ 0 then (pz, chkP q, ()) else if sib (toB p) (toB q) then (ofB (upB (toB p)), 0, ()) else (pz, 4, ())
theorem prefix_WholeZ {p q : Pf} (hp : p.In) (hq : q.In) : prefix_Whole_t p q = some (wholeZ p q) := by
 unfold prefix_Whole_t wholeZ
 rw [prefix_two_eq hp hq, bind_s]
 by_cases cp : chkP p = 0
 rotate_left
 ·simp only [cp, ne_eq, not_false_iff, if_true, decide_false, Bool.not_false, br_true]
  rfl
 by_cases cq : chkP q = 0
 rotate_left
 ·simp only [cp, cq, ne_eq, not_true, not_false_iff, if_true, if_false, decide_false, Bool.not_false, br_true]
  rfl
 obtain ⟨w, e1, e2⟩ := join_eq ⟨hp, cp⟩ ⟨hq, cq⟩
 by_cases hs : sib (toB p) (toB q)
 ·obtain ⟨rfl, _⟩ := e2 hs
  simp only [cp, cq, ne_eq, not_true, if_false, decide_true, Bool.not_true, br_false, prefix_Joined_eq, e1, bind_s, decide_eq_true hs, if_pos hs]
 ·simp only [cp, cq, ne_eq, not_true, if_false, decide_true, Bool.not_true, br_false, prefix_Joined_eq, e1, bind_s, decide_eq_false hs, Bool.not_false, br_true, if_neg hs]
  rfl
theorem WholeOf_t {p q : Pf} (hp : rtP p) (hq : rtP q) : ∃ w, R_WholeOf_t p q = some (w, decide (sib (toB p) (toB q)), ()) ∧ (sib (toB p) (toB q) → w = ofB (upB (toB p))) := by
 obtain ⟨b0, b1⟩ := chkP_bits hp.2
 have fb := free_bits hp.2
 have hfit := toB_fit hp
 have hw := wid_top p.ad.v6
 unfold R_WholeOf_t
 by_cases h0 : p.bits = 0
 ·rw [h0]
  have hs : ¬ sib (toB p) (toB q) := fun hs => by
   obtain ⟨w, _, e2⟩ := join_eq hp hq
   have := (e2 hs).2.1
   have h3 : (upB (toB p)).f = free p + 1 := rfl
   have h4 : (upB (toB p)).v = p.ad.v6 := rfl
   rw [h3, h4] at this
   omega
  exact ⟨_, by rw [decide_eq_false hs]; rfl, fun h => absurd h hs⟩
 rw [decide_eq_false h0, br_false, req_of (i64ok_of (by omega) (by omega))]
 have hwin : (⟨p.ad, p.bits - 1⟩ : Pf).In := ⟨hp.1.1, by show -9223372036854775808 ≤ p.bits - 1; omega, by show p.bits - 1 < 9223372036854775808; omega⟩
 rw [R_CheckPrefix_eq hwin, bind_s]
 have hnum : p.ad.num = (toB p).k * 2 ^ free p := (toB_lo hp).symm
 have hfree : wid p.ad.v6 - (p.bits - 1).toNat = free p + 1 := by omega
 have hchk : chkP ⟨p.ad, p.bits - 1⟩ = 0 ↔ (toB p).k % 2 = 0 := by
  have hcut : cutA p.ad (p.bits - 1) = p.ad ↔ (toB p).k % 2 = 0 := by
   rw [cutA_iff hp.1.1.wf, cutN_iff, hfree, hnum, Nat.pow_succ, Nat.mul_comm (2 ^ free p) 2, Nat.mul_mod_mul_right]
   constructor
   ·intro h
    rcases Nat.mul_eq_zero.1 h with h | h
    ·exact h
    ·exact absurd h (Nat.pos_iff_ne_zero.1 (Nat.two_pow_pos _))
   ·intro h
    rw [h, Nat.zero_mul]
  have hca := chkP_ad hp.2
  unfold chkP
  rw [if_neg (fun h => h hca), if_neg (by simp only [not_or]; omega)]
  by_cases h : cutA p.ad (p.bits - 1) = p.ad
  ·simp only [h, ne_eq, not_true, if_false, true_iff]
   exact hcut.1 h
  ·simp only [h, ne_eq, not_false_iff, if_true]
   exact ⟨fun h => (by cases h), fun h2 => absurd (hcut.2 h2) h⟩
 by_cases hc : chkP ⟨p.ad, p.bits - 1⟩ = 0
 rotate_left
 ·have hs : ¬ sib (toB p) (toB q) := fun hs => hc (hchk.2 hs.2.2.1)
  refine ⟨⟨⟨false, 0, 0⟩, 0⟩, ?_, fun h => absurd h hs⟩
  rw [decide_eq_false hs]
  simp only [hc, decide_false, Bool.not_false, br_true]
 have hk := hchk.1 hc
 have rw0 : rtP ⟨p.ad, p.bits - 1⟩ := ⟨hwin, hc⟩
 have eB : toB ⟨p.ad, p.bits - 1⟩ = upB (toB p) := by
  have h1 : free ⟨p.ad, p.bits - 1⟩ = free p + 1 := hfree
  unfold toB upB
  simp only [h1]
  congr 1
  rw [Nat.pow_succ, Nat.div_div_eq_div_mul]
 have hup : fitB (upB (toB p)) := by rw [← eB]; exact toB_fit rw0
 have ew : (⟨p.ad, p.bits - 1⟩ : Pf) = ofB (upB (toB p)) := by rw [← eB, ofB_toB rw0]
 have elo : loB (upB (toB p)) = toB p := by
  unfold loB upB
  have : 2 * ((toB p).k / 2) = (toB p).k := by omega
  simp only [Nat.add_sub_cancel, this]
 have ehi : hiB (upB (toB p)) = ⟨(toB p).v, (toB p).f, (toB p).k + 1⟩ := by
  unfold hiB upB
  have : 2 * ((toB p).k / 2) + 1 = (toB p).k + 1 := by omega
  simp only [Nat.add_sub_cancel, this]
 have hhi := hiB_fit hup (by show 0 < (toB p).f + 1; omega)
 simp only [hc, decide_true, Bool.not_true, br_false]
 rw [ew, halvesZ_B hup (by show 0 < (toB p).f + 1; omega), bind_s, elo, ofB_toB hp, eqPf_eq, decide_eq_true rfl, br_true]
 refine ⟨_, ?_, fun _ => rfl⟩
 have : eqPf (ofB (hiB (upB (toB p)))) q = decide (sib (toB p) (toB q)) := by
  rw [eqPf_eq]
  refine decide_eq_decide.2 ⟨fun h => ?_, fun h => ?_⟩
  ·have : toB q = hiB (upB (toB p)) := by rw [← h]; exact (ofB_ok hhi).2
   rw [ehi] at this
   rw [this]
   exact ⟨rfl, rfl, hk, rfl⟩
  ·obtain ⟨s1, s2, s3, s4⟩ := h
   have : toB q = hiB (upB (toB p)) := by
    rw [ehi]
    cases hq' : toB q with
    | mk v f k =>
     rw [hq'] at s1 s2 s4
     simp only at s1 s2 s4
     rw [s1, s2, s4]
   rw [← this, ofB_toB hq]
 simp only [this]
theorem PrefixTells_eq {p q : Pf} (hp : p.In) (hq : q.In) {s : ByteArray} (hs : s.size ≤ 1048576) : law_PrefixTells_t p q s = some (true, ()) := by
 have hPr : prefix_Print_t p = some (if chkP p = 0 then ofBytes (textP p) else ByteArray.empty, chkP p, ()) := by
  unfold prefix_Print_t
  rw [prefix_Check_eq hp, bind_s]
  by_cases hc : chkP p = 0
  ·rw [if_pos hc, decide_eq_true (show (chkP p, ()).1 = 0 from hc), Bool.not_true, br_false, prefix_Text_P hp hc, bind_s, hc]
  ·rw [if_neg hc, decide_eq_false (show ¬ (chkP p, ()).1 = 0 from hc), Bool.not_false, br_true]
 have eP := prefix_Parse_A s hs
 have eH := prefix_Has_eq hp hq
 have eE := prefix_Ends_eq hp
 have eV := prefix_HalvesZ hp
 have eW := prefix_WholeZ hp hq
 have eC := R_CheckPrefix_eq hp
 have eD := R_CheckPrefix_eq hq
 have eO := PrefixOf_t s hs
 have eK := prefix_Check_eq hp
 unfold hasT at eH
 unfold endsT at eE
 unfold halvesZ at eV
 unfold wholeZ at eW
 unfold law_PrefixTells_t law_PrefixTells_G
 by_cases cp : chkP p = 0
 rotate_left
 ·simp [hPr, eP, eH, eE, eV, eW, eC, eO, eK, prefixBegun_eq, cp, br, eqAd_eq, eqPf_eq, strcmp_eql, beqB, pz]
 have eT := PrefixText_t hp cp
 have eL := R_LastOf_eq hp cp
 have eB := R_Bits_eq hp.1
 have hlen : lenS (ofBytes (bitsA p.ad)) = ((wid p.ad.v6 : Nat) : Int) := by rw [lenB, bitsA_len]
 have hH : ¬ p.bits = ((wid p.ad.v6 : Nat) : Int) → R_HalvesOf_t p = some (ofB (loB (toB p)), ofB (hiB (toB p)), ()) := fun hb => by
  have := halvesZ_B (toB_fit ⟨hp, cp⟩) (wideZ_f ⟨hp, cp⟩ hb)
  rwa [ofB_toB ⟨hp, cp⟩] at this
 by_cases cq : chkP q = 0
 rotate_left
 ·by_cases hb : p.bits = ((wid p.ad.v6 : Nat) : Int)
  ·simp [hPr, eP, eH, eE, eV, eW, eC, eD, eO, eK, eT, eL, eB, prefixBegun_eq, cp, cq, hlen, hb, br, eqAd_eq, eqPf_eq, strcmp_eql, beqB, pz]
  ·simp [hPr, eP, eH, eE, eV, eW, eC, eD, eO, eK, eT, eL, eB, hH hb, prefixBegun_eq, cp, cq, hlen, hb, br, eqAd_eq, eqPf_eq, strcmp_eql, beqB, pz]
 have eQ := R_HasPrefix_eq hp cp hq (chkP_ad cq)
 obtain ⟨w, h1, h2⟩ := WholeOf_t ⟨hp, cp⟩ ⟨hq, cq⟩
 by_cases hsb : sib (toB p) (toB q)
 ·have := h2 hsb
  subst this
  by_cases hb : p.bits = ((wid p.ad.v6 : Nat) : Int)
  ·simp [hPr, eP, eH, eE, eV, eW, eC, eD, eO, eK, eT, eL, eB, eQ, h1, prefixBegun_eq, cp, cq, hsb, hlen, hb, br, eqAd_eq, eqPf_eq, strcmp_eql, beqB, pz]
  ·simp [hPr, eP, eH, eE, eV, eW, eC, eD, eO, eK, eT, eL, eB, eQ, h1, hH hb, prefixBegun_eq, cp, cq, hsb, hlen, hb, br, eqAd_eq, eqPf_eq, strcmp_eql, beqB, pz]
 ·by_cases hb : p.bits = ((wid p.ad.v6 : Nat) : Int)
  ·simp [hPr, eP, eH, eE, eV, eW, eC, eD, eO, eK, eT, eL, eB, eQ, h1, prefixBegun_eq, cp, cq, hsb, hlen, hb, br, eqAd_eq, eqPf_eq, strcmp_eql, beqB, pz]
  ·simp [hPr, eP, eH, eE, eV, eW, eC, eD, eO, eK, eT, eL, eB, eQ, h1, hH hb, prefixBegun_eq, cp, cq, hsb, hlen, hb, br, eqAd_eq, eqPf_eq, strcmp_eql, beqB, pz]
end Go.Ma
namespace Go.Proofs.YthoipikkaelohaaGreatDoor
open Go Go.Ma
def noTi : TI := { known := false, kind := .other, agg := false, size := 0, zero := [], fields := [], elem := 0 }
def ti_1 : TI := { kind := .other, agg := false, size := 1, zero := [.nilFunc], fields := [], elem := 0, bytes := 8, eq := false, k := none }
def ti_2 : TI := { kind := (.int .i64), agg := false, size := 1, zero := [.int .i64 0], fields := [], elem := 0, bytes := 8, eq := false, k := some .int }
def ti_3 : TI := ti_2
def ti_4 : TI := { kind := .bool, agg := false, size := 1, zero := [.bool false], fields := [], elem := 0, bytes := 1, eq := false, k := some .bool }
def ti_5 : TI := { kind := (.int .u8), agg := false, size := 1, zero := [.int .u8 0], fields := [], elem := 0, bytes := 1, eq := false, k := some .u8 }
def ti_6 : TI := ti_5
def ti_7 : TI := { kind := .struct, agg := true, size := 4, zero := [.int .i64 0, .int .i64 0, .bool false, .int .u8 0], fields := [(0, 2), (1, 3), (2, 4), (3, 6)], elem := 0, bytes := 24, eq := false, k := none }
def ti_8 : TI := ti_7
def ti_9 : TI := { kind := .str, agg := false, size := 1, zero := [.string .empty], fields := [], elem := 0, bytes := 16, eq := false, k := some .str }
def ti_10 : TI := ti_9
def ti_11 : TI := ti_9
def ti_12 : TI := { kind := (.int .u64), agg := false, size := 1, zero := [.int .u64 0], fields := [], elem := 0, bytes := 8, eq := false, k := some .u64 }
def ti_13 : TI := { kind := .struct, agg := true, size := 2, zero := [.string .empty, .int .u64 0], fields := [(0, 9), (1, 12)], elem := 0, bytes := 24, eq := false, k := none }
def ti_14 : TI := ti_13
def ti_15 : TI := { kind := .other, agg := false, size := 1, zero := [.pointer none], fields := [], elem := 0, bytes := 8, eq := false, k := none }
def ti_16 : TI := ti_15
def ti_17 : TI := ti_15
def ti_18 : TI := { kind := .struct, agg := true, size := 1, zero := [.pointer none], fields := [(0, 17)], elem := 0, bytes := 8, eq := false, k := none }
def ti_19 : TI := ti_18
def ti_20 : TI := { kind := .other, agg := false, size := 1, zero := [.nilIface], fields := [], elem := 0, bytes := 16, eq := false, k := none }
def ti_21 : TI := { kind := (.int .i32), agg := false, size := 1, zero := [.int .i32 0], fields := [], elem := 0, bytes := 4, eq := false, k := none }
def ti_22 : TI := ti_12
def ti_23 : TI := { kind := .struct, agg := true, size := 3, zero := [.bool false, .int .u64 0, .int .u64 0], fields := [(0, 4), (1, 22), (2, 22)], elem := 0, bytes := 24, eq := false, k := none }
def ti_24 : TI := { kind := .struct, agg := true, size := 3, zero := [.bool false, .int .u64 0, .int .u64 0], fields := [(0, 4), (1, 22), (2, 22)], elem := 0, bytes := 24, eq := true, k := some .addr }
def ti_25 : TI := { kind := .struct, agg := true, size := 4, zero := [.bool false, .int .u64 0, .int .u64 0, .int .i64 0], fields := [(0, 24), (3, 3)], elem := 0, bytes := 32, eq := false, k := none }
def ti_26 : TI := { kind := .struct, agg := true, size := 4, zero := [.bool false, .int .u64 0, .int .u64 0, .int .i64 0], fields := [(0, 24), (3, 3)], elem := 0, bytes := 32, eq := true, k := some .pfx }
def ti_27 : TI := ti_2
def ti_29 : TI := ti_1
def ti_31 : TI := ti_1
def ti_33 : TI := ti_1
def ti_35 : TI := ti_1
def ti_37 : TI := ti_1
def ti_38 : TI := ti_1
def ti_39 : TI := ti_1
def ti_40 : TI := ti_1
def ti_41 : TI := ti_1
def ti_42 : TI := ti_1
def ti_44 : TI := ti_1
def ti_46 : TI := ti_1
def ti_47 : TI := ti_1
def ti_48 : TI := ti_1
def ti_49 : TI := ti_1
def ti_51 : TI := ti_1
def ti_53 : TI := ti_1
def ti_55 : TI := ti_1
def ti_56 : TI := ti_1
def ti_57 : TI := ti_1
def ti_58 : TI := ti_1
def ti_59 : TI := ti_1
def ti_60 : TI := ti_1
def ti_61 : TI := ti_1
def ti_62 : TI := { kind := .slice, agg := false, size := 1, zero := [.slice none 0 0], fields := [], elem := 5, bytes := 24, eq := false, k := none, sl := [(0, .inl .u8, 5)] }
def ti_63 : TI := ti_1
def ti_64 : TI := { kind := .slice, agg := false, size := 1, zero := [.slice none 0 0], fields := [], elem := 9, bytes := 24, eq := false, k := none, sl := [(0, .inl .str, 9)] }
def ti_65 : TI := ti_1
def ti_67 : TI := ti_1
def ti_68 : TI := ti_1
def ti_69 : TI := ti_1
def ti_70 : TI := ti_1
def ti_71 : TI := ti_1
def ti_72 : TI := ti_1
def ti_73 : TI := ti_20
def ti_74 : TI := ti_20
def ti_76 : TI := ti_1
def ti_77 : TI := { kind := .slice, agg := false, size := 1, zero := [.slice none 0 0], fields := [], elem := 26, bytes := 24, eq := false, k := none, sl := [(0, .inl .pfx, 26)] }
def ti_78 : TI := ti_1
def ti_79 : TI := ti_1
def ti_80 : TI := { kind := .other, agg := true, size := 8, zero := [.int .i64 0, .int .i64 0, .int .i64 0, .int .i64 0, .int .i64 0, .int .i64 0, .int .i64 0, .int .i64 0], fields := [], elem := 3, bytes := 64, eq := false, k := none, arr := some 8 }
def ti_82 : TI := ti_1
def ti_83 : TI := ti_1
def ti_84 : TI := ti_1
def ti_85 : TI := ti_1
def ti_87 : TI := ti_1
def ti_88 : TI := ti_1
def ti_89 : TI := ti_1
def ti_90 : TI := { kind := .struct, agg := true, size := 0, zero := [], fields := [], elem := 0, bytes := 0, eq := false, k := none }
def ti_91 : TI := ti_90
def ti_93 : TI := ti_1
def ti_94 : TI := ti_1
def ti_95 : TI := ti_1
def ti_96 : TI := ti_15
def ti_97 : TI := { kind := .struct, agg := true, size := 2, zero := [.pointer none, .slice none 0 0], fields := [(0, 96), (1, 62)], elem := 0, bytes := 32, eq := false, k := none, sl := [(1, .inl .u8, 5)] }
def ti_98 : TI := ti_97
def ti_99 : TI := ti_1
def ti_100 : TI := ti_1
def ti_101 : TI := ti_1
def ti_102 : TI := ti_1
def ti_103 : TI := ti_1
def ti_104 : TI := ti_1
def ti_105 : TI := ti_1
def ti_106 : TI := ti_12
def ti_107 : TI := { kind := .slice, agg := false, size := 1, zero := [.slice none 0 0], fields := [], elem := 22, bytes := 24, eq := false, k := none, sl := [(0, .inl .u64, 22)] }
def ti_108 : TI := ti_1
def ti_109 : TI := ti_1
def ti_110 : TI := ti_1
def ti_111 : TI := ti_2
def ti_113 : TI := ti_1
def ti_114 : TI := ti_15
def ti_115 : TI := ti_1
def ti_116 : TI := ti_1
def ti_117 : TI := { kind := .other, agg := true, size := 24, zero := [.int .u8 0, .int .u8 0, .int .u8 0, .int .u8 0, .int .u8 0, .int .u8 0, .int .u8 0, .int .u8 0, .int .u8 0, .int .u8 0, .int .u8 0, .int .u8 0, .int .u8 0, .int .u8 0, .int .u8 0, .int .u8 0, .int .u8 0, .int .u8 0, .int .u8 0, .int .u8 0, .int .u8 0, .int .u8 0, .int .u8 0, .int .u8 0], fields := [], elem := 5, bytes := 24, eq := false, k := none }
def ti_118 : TI := ti_1
def ti_119 : TI := ti_1
def ti_121 : TI := ti_1
def ti_122 : TI := ti_15
def ti_123 : TI := { kind := (.int .u32), agg := false, size := 1, zero := [.int .u32 0], fields := [], elem := 0, bytes := 4, eq := false, k := none }
def ti_125 : TI := ti_1
def ti_126 : TI := ti_1
def ti_128 : TI := ti_1
def ti_129 : TI := ti_1
def ti_130 : TI := { kind := .struct, agg := true, size := 3, zero := [.string .empty, .string .empty, .nilIface], fields := [(0, 9), (1, 9), (2, 74)], elem := 0, bytes := 48, eq := false, k := none }
def ti_131 : TI := ti_130
def ti_132 : TI := ti_1
def ti_133 : TI := ti_1
def ti_134 : TI := { kind := .other, agg := true, size := 20, zero := [.int .u64 0, .int .u64 0, .int .u64 0, .int .u64 0, .int .u64 0, .int .u64 0, .int .u64 0, .int .u64 0, .int .u64 0, .int .u64 0, .int .u64 0, .int .u64 0, .int .u64 0, .int .u64 0, .int .u64 0, .int .u64 0, .int .u64 0, .int .u64 0, .int .u64 0, .int .u64 0], fields := [], elem := 22, bytes := 160, eq := false, k := none }
def ti_136 : TI := ti_1
def ti_137 : TI := ti_1
def ti_138 : TI := ti_15
def ti_139 : TI := ti_1
def ti_140 : TI := ti_1
def ti_141 : TI := ti_1
def ti_142 : TI := ti_1
def ti_143 : TI := ti_1
def ti_144 : TI := ti_15
def ti_145 : TI := { kind := .struct, agg := true, size := 1, zero := [.string .empty], fields := [(0, 9)], elem := 0, bytes := 16, eq := false, k := none }
def ti_146 : TI := ti_145
def ti_147 : TI := ti_1
def ti_149 : TI := ti_1
def ti_150 : TI := { kind := .other, agg := true, size := 32, zero := [.int .u8 0, .int .u8 0, .int .u8 0, .int .u8 0, .int .u8 0, .int .u8 0, .int .u8 0, .int .u8 0, .int .u8 0, .int .u8 0, .int .u8 0, .int .u8 0, .int .u8 0, .int .u8 0, .int .u8 0, .int .u8 0, .int .u8 0, .int .u8 0, .int .u8 0, .int .u8 0, .int .u8 0, .int .u8 0, .int .u8 0, .int .u8 0, .int .u8 0, .int .u8 0, .int .u8 0, .int .u8 0, .int .u8 0, .int .u8 0, .int .u8 0, .int .u8 0], fields := [], elem := 5, bytes := 32, eq := false, k := none }
def ti_151 : TI := { kind := .other, agg := true, size := 64, zero := [.int .u8 0, .int .u8 0, .int .u8 0, .int .u8 0, .int .u8 0, .int .u8 0, .int .u8 0, .int .u8 0, .int .u8 0, .int .u8 0, .int .u8 0, .int .u8 0, .int .u8 0, .int .u8 0, .int .u8 0, .int .u8 0, .int .u8 0, .int .u8 0, .int .u8 0, .int .u8 0, .int .u8 0, .int .u8 0, .int .u8 0, .int .u8 0, .int .u8 0, .int .u8 0, .int .u8 0, .int .u8 0, .int .u8 0, .int .u8 0, .int .u8 0, .int .u8 0, .int .u8 0, .int .u8 0, .int .u8 0, .int .u8 0, .int .u8 0, .int .u8 0, .int .u8 0, .int .u8 0, .int .u8 0, .int .u8 0, .int .u8 0, .int .u8 0, .int .u8 0, .int .u8 0, .int .u8 0, .int .u8 0, .int .u8 0, .int .u8 0, .int .u8 0, .int .u8 0, .int .u8 0, .int .u8 0, .int .u8 0, .int .u8 0, .int .u8 0, .int .u8 0, .int .u8 0, .int .u8 0, .int .u8 0, .int .u8 0, .int .u8 0, .int .u8 0], fields := [], elem := 5, bytes := 64, eq := false, k := none }
def ti_153 : TI := { kind := .struct, agg := true, size := 2, zero := [.int .u8 0, .int .u8 0], fields := [(0, 5), (1, 5)], elem := 0, bytes := 2, eq := false, k := none }
def ti_154 : TI := ti_153
def ti_155 : TI := { kind := .other, agg := true, size := 32, zero := [.int .u8 0, .int .u8 0, .int .u8 0, .int .u8 0, .int .u8 0, .int .u8 0, .int .u8 0, .int .u8 0, .int .u8 0, .int .u8 0, .int .u8 0, .int .u8 0, .int .u8 0, .int .u8 0, .int .u8 0, .int .u8 0, .int .u8 0, .int .u8 0, .int .u8 0, .int .u8 0, .int .u8 0, .int .u8 0, .int .u8 0, .int .u8 0, .int .u8 0, .int .u8 0, .int .u8 0, .int .u8 0, .int .u8 0, .int .u8 0, .int .u8 0, .int .u8 0], fields := [], elem := 154, bytes := 32, eq := false, k := none }
def ti_156 : TI := { kind := .struct, agg := true, size := 4, zero := [.pointer none, .pointer none, .pointer none, .string .empty], fields := [(0, 17), (1, 17), (2, 17), (3, 9)], elem := 0, bytes := 40, eq := false, k := none }
def ti_157 : TI := ti_156
def ti_158 : TI := { kind := .other, agg := true, size := 0, zero := [], fields := [], elem := 16, bytes := 0, eq := false, k := none }
def ti_159 : TI := { kind := .struct, agg := true, size := 0, zero := [], fields := [(0, 158)], elem := 0, bytes := 0, eq := false, k := none }
def ti_160 : TI := ti_159
def ti_161 : TI := ti_1
def ti_162 : TI := ti_5
def ti_163 : TI := ti_5
def ti_164 : TI := ti_1
def ti_165 : TI := ti_21
def ti_166 : TI := ti_21
def ti_167 : TI := { kind := .struct, agg := true, size := 11, zero := [.int .u64 0, .int .u64 0, .int .u32 0, .int .u8 0, .int .u8 0, .int .u8 0, .int .u8 0, .nilFunc, .pointer none, .int .i32 0, .int .i32 0], fields := [(0, 12), (1, 12), (2, 123), (3, 162), (4, 5), (5, 5), (6, 163), (7, 164), (8, 122), (9, 165), (10, 166)], elem := 0, bytes := 48, eq := false, k := none }
def ti_168 : TI := ti_167
def ty (t : Nat) : TI := bif Nat.blt t 176 then (bif Nat.blt t 88 then (bif Nat.blt t 44 then (bif Nat.blt t 22 then (bif Nat.blt t 11 then (bif Nat.blt t 5 then (bif Nat.blt t 2 then (bif Nat.blt t 1 then noTi else ti_1) else (bif Nat.blt t 3 then ti_2 else (bif Nat.blt t 4 then ti_3 else ti_4))) else (bif Nat.blt t 8 then (bif Nat.blt t 6 then ti_5 else (bif Nat.blt t 7 then ti_6 else ti_7)) else (bif Nat.blt t 9 then ti_8 else (bif Nat.blt t 10 then ti_9 else ti_10)))) else (bif Nat.blt t 16 then (bif Nat.blt t 13 then (bif Nat.blt t 12 then ti_11 else ti_12) else (bif Nat.blt t 14 then ti_13 else (bif Nat.blt t 15 then ti_14 else ti_15))) else (bif Nat.blt t 19 then (bif Nat.blt t 17 then ti_16 else (bif Nat.blt t 18 then ti_17 else ti_18)) else (bif Nat.blt t 20 then ti_19 else (bif Nat.blt t 21 then ti_20 else ti_21))))) else (bif Nat.blt t 33 then (bif Nat.blt t 27 then (bif Nat.blt t 24 then (bif Nat.blt t 23 then ti_22 else ti_23) else (bif Nat.blt t 25 then ti_24 else (bif Nat.blt t 26 then ti_25 else ti_26))) else (bif Nat.blt t 30 then (bif Nat.blt t 28 then ti_27 else (bif Nat.blt t 29 then noTi else ti_29)) else (bif Nat.blt t 31 then noTi else (bif Nat.blt t 32 then ti_31 else noTi)))) else (bif Nat.blt t 38 then (bif Nat.blt t 35 then (bif Nat.blt t 34 then ti_33 else noTi) else (bif Nat.blt t 36 then ti_35 else (bif Nat.blt t 37 then noTi else ti_37))) else (bif Nat.blt t 41 then (bif Nat.blt t 39 then ti_38 else (bif Nat.blt t 40 then ti_39 else ti_40)) else (bif Nat.blt t 42 then ti_41 else (bif Nat.blt t 43 then ti_42 else noTi)))))) else (bif Nat.blt t 66 then (bif Nat.blt t 55 then (bif Nat.blt t 49 then (bif Nat.blt t 46 then (bif Nat.blt t 45 then ti_44 else noTi) else (bif Nat.blt t 47 then ti_46 else (bif Nat.blt t 48 then ti_47 else ti_48))) else (bif Nat.blt t 52 then (bif Nat.blt t 50 then ti_49 else (bif Nat.blt t 51 then noTi else ti_51)) else (bif Nat.blt t 53 then noTi else (bif Nat.blt t 54 then ti_53 else noTi)))) else (bif Nat.blt t 60 then (bif Nat.blt t 57 then (bif Nat.blt t 56 then ti_55 else ti_56) else (bif Nat.blt t 58 then ti_57 else (bif Nat.blt t 59 then ti_58 else ti_59))) else (bif Nat.blt t 63 then (bif Nat.blt t 61 then ti_60 else (bif Nat.blt t 62 then ti_61 else ti_62)) else (bif Nat.blt t 64 then ti_63 else (bif Nat.blt t 65 then ti_64 else ti_65))))) else (bif Nat.blt t 77 then (bif Nat.blt t 71 then (bif Nat.blt t 68 then (bif Nat.blt t 67 then noTi else ti_67) else (bif Nat.blt t 69 then ti_68 else (bif Nat.blt t 70 then ti_69 else ti_70))) else (bif Nat.blt t 74 then (bif Nat.blt t 72 then ti_71 else (bif Nat.blt t 73 then ti_72 else ti_73)) else (bif Nat.blt t 75 then ti_74 else (bif Nat.blt t 76 then noTi else ti_76)))) else (bif Nat.blt t 82 then (bif Nat.blt t 79 then (bif Nat.blt t 78 then ti_77 else ti_78) else (bif Nat.blt t 80 then ti_79 else (bif Nat.blt t 81 then ti_80 else noTi))) else (bif Nat.blt t 85 then (bif Nat.blt t 83 then ti_82 else (bif Nat.blt t 84 then ti_83 else ti_84)) else (bif Nat.blt t 86 then ti_85 else (bif Nat.blt t 87 then noTi else ti_87))))))) else (bif Nat.blt t 132 then (bif Nat.blt t 110 then (bif Nat.blt t 99 then (bif Nat.blt t 93 then (bif Nat.blt t 90 then (bif Nat.blt t 89 then ti_88 else ti_89) else (bif Nat.blt t 91 then ti_90 else (bif Nat.blt t 92 then ti_91 else noTi))) else (bif Nat.blt t 96 then (bif Nat.blt t 94 then ti_93 else (bif Nat.blt t 95 then ti_94 else ti_95)) else (bif Nat.blt t 97 then ti_96 else (bif Nat.blt t 98 then ti_97 else ti_98)))) else (bif Nat.blt t 104 then (bif Nat.blt t 101 then (bif Nat.blt t 100 then ti_99 else ti_100) else (bif Nat.blt t 102 then ti_101 else (bif Nat.blt t 103 then ti_102 else ti_103))) else (bif Nat.blt t 107 then (bif Nat.blt t 105 then ti_104 else (bif Nat.blt t 106 then ti_105 else ti_106)) else (bif Nat.blt t 108 then ti_107 else (bif Nat.blt t 109 then ti_108 else ti_109))))) else (bif Nat.blt t 121 then (bif Nat.blt t 115 then (bif Nat.blt t 112 then (bif Nat.blt t 111 then ti_110 else ti_111) else (bif Nat.blt t 113 then noTi else (bif Nat.blt t 114 then ti_113 else ti_114))) else (bif Nat.blt t 118 then (bif Nat.blt t 116 then ti_115 else (bif Nat.blt t 117 then ti_116 else ti_117)) else (bif Nat.blt t 119 then ti_118 else (bif Nat.blt t 120 then ti_119 else noTi)))) else (bif Nat.blt t 126 then (bif Nat.blt t 123 then (bif Nat.blt t 122 then ti_121 else ti_122) else (bif Nat.blt t 124 then ti_123 else (bif Nat.blt t 125 then noTi else ti_125))) else (bif Nat.blt t 129 then (bif Nat.blt t 127 then ti_126 else (bif Nat.blt t 128 then noTi else ti_128)) else (bif Nat.blt t 130 then ti_129 else (bif Nat.blt t 131 then ti_130 else ti_131)))))) else (bif Nat.blt t 154 then (bif Nat.blt t 143 then (bif Nat.blt t 137 then (bif Nat.blt t 134 then (bif Nat.blt t 133 then ti_132 else ti_133) else (bif Nat.blt t 135 then ti_134 else (bif Nat.blt t 136 then noTi else ti_136))) else (bif Nat.blt t 140 then (bif Nat.blt t 138 then ti_137 else (bif Nat.blt t 139 then ti_138 else ti_139)) else (bif Nat.blt t 141 then ti_140 else (bif Nat.blt t 142 then ti_141 else ti_142)))) else (bif Nat.blt t 148 then (bif Nat.blt t 145 then (bif Nat.blt t 144 then ti_143 else ti_144) else (bif Nat.blt t 146 then ti_145 else (bif Nat.blt t 147 then ti_146 else ti_147))) else (bif Nat.blt t 151 then (bif Nat.blt t 149 then noTi else (bif Nat.blt t 150 then ti_149 else ti_150)) else (bif Nat.blt t 152 then ti_151 else (bif Nat.blt t 153 then noTi else ti_153))))) else (bif Nat.blt t 165 then (bif Nat.blt t 159 then (bif Nat.blt t 156 then (bif Nat.blt t 155 then ti_154 else ti_155) else (bif Nat.blt t 157 then ti_156 else (bif Nat.blt t 158 then ti_157 else ti_158))) else (bif Nat.blt t 162 then (bif Nat.blt t 160 then ti_159 else (bif Nat.blt t 161 then ti_160 else ti_161)) else (bif Nat.blt t 163 then ti_162 else (bif Nat.blt t 164 then ti_163 else ti_164)))) else (bif Nat.blt t 170 then (bif Nat.blt t 167 then (bif Nat.blt t 166 then ti_165 else ti_166) else (bif Nat.blt t 168 then ti_167 else (bif Nat.blt t 169 then ti_168 else noTi))) else (bif Nat.blt t 173 then (bif Nat.blt t 171 then noTi else (bif Nat.blt t 172 then noTi else noTi)) else (bif Nat.blt t 174 then noTi else (bif Nat.blt t 175 then noTi else noTi)))))))) else noTi
theorem ty_dflt (t : Nat) (h : 176 ≤ t) : ty t = noTi := by
 have e : Nat.blt t 176 = false := by
  cases hb : Nat.blt t 176
  ·rfl
  ·have := Nat.le_of_ble_eq_true hb
   omega
 unfold ty
 rw [e]
 rfl
def tyKnown : List Nat := [1, 2, 3, 4, 5, 6, 7, 8, 9, 10, 11, 12, 13, 14, 15, 16, 17, 18, 19, 20, 21, 22, 23, 24, 25, 26, 27, 29, 31, 33, 35, 37, 38, 39, 40, 41, 42, 44, 46, 47, 48, 49, 51, 53, 55, 56, 57, 58, 59, 60, 61, 62, 63, 64, 65, 67, 68, 69, 70, 71, 72, 73, 74, 76, 77, 78, 79, 80, 82, 83, 84, 85, 87, 88, 89, 90, 91, 93, 94, 95, 96, 97, 98, 99, 100, 101, 102, 103, 104, 105, 106, 107, 108, 109, 110, 111, 113, 114, 115, 116, 117, 118, 119, 121, 122, 123, 125, 126, 128, 129, 130, 131, 132, 133, 134, 136, 137, 138, 139, 140, 141, 142, 143, 144, 145, 146, 147, 149, 150, 151, 153, 154, 155, 156, 157, 158, 159, 160, 161, 162, 163, 164, 165, 166, 167, 168]
theorem ty_list : tyKnown.map (fun t => ({ ty t with eq := false, k := none, nk := none, sl := [], gl := none, arr := none } : TI)) = tyKnown.map (tiOf Tryz.prog) := by kernel_rfl
theorem ty_in : (List.range 176).all (fun t => !(ty t).known || tyKnown.contains t) = true := by kernel_rfl
theorem ty_fact (t : Nat) (h : (ty t).known = true) : TyFact Tryz.prog t (ty t) := by
 refine tyFact_of h ?_
 have hlt : t < 176 := by
  rcases Nat.lt_or_ge t 176 with h' | h'
  ·exact h'
  ·have : (ty t) = noTi := ty_dflt t h'
   rw [this] at h
   cases h
 have h1 := List.all_eq_true.1 ty_in t (List.mem_range.2 hlt)
 rw [h] at h1
 have hmem : t ∈ tyKnown := by simpa using h1
 have := List.map_inj_left.1 ty_list t hmem
 exact this
theorem eq_24 : StructEq Tryz.prog 24 (ty 24).zero := structEq ty_fact 24 (ty 24).zero (by kernel_rfl) (by kernel_rfl) (by kernel_rfl)
theorem eq_26 : StructEq Tryz.prog 26 (ty 26).zero := structEq ty_fact 26 (ty 26).zero (by kernel_rfl) (by kernel_rfl) (by kernel_rfl)
def tyEqs : List Nat := [24, 26]
theorem eq_in : (List.range 176).all (fun t => !(ty t).eq || tyEqs.contains t) = true := by kernel_rfl
theorem ty_eq (t : Nat) (h : (ty t).eq = true) : StructEq Tryz.prog t (ty t).zero := by
 have hlt : t < 176 := by
  rcases Nat.lt_or_ge t 176 with h' | h'
  ·exact h'
  ·rw [ty_dflt t h'] at h
   cases h
 have h1 := List.all_eq_true.1 eq_in t (List.mem_range.2 hlt)
 rw [h] at h1
 have hmem : t ∈ tyEqs := by simpa using h1
 simp only [tyEqs, List.mem_cons, List.not_mem_nil, or_false] at hmem
 rcases hmem with rfl | rfl
 ·exact eq_24
 ·exact eq_26
def tyGls : List Nat := []
theorem gl_in : (List.range 176).all (fun t => !(ty t).gl.isSome || tyGls.contains t) = true := by kernel_rfl
theorem ty_gl (t g : Nat) (h : (ty t).gl = some g) : Tryz.prog.globalNamed "yardarm/text.words" = some g ∧ ((ty t).agg = true → Tryz.prog.underlying t = some (.array 6 (ty t).elem)) := by
 have hlt : t < 176 := by
  rcases Nat.lt_or_ge t 176 with h' | h'
  ·exact h'
  ·rw [ty_dflt t h'] at h
   cases h
 have h1 := List.all_eq_true.1 gl_in t (List.mem_range.2 hlt)
 rw [h] at h1
 have hmem : t ∈ tyGls := by simpa using h1
 simp [tyGls] at hmem
def tyArrs : List Nat := [80]
theorem arr_in : (List.range 176).all (fun t => !(ty t).arr.isSome || tyArrs.contains t) = true := by kernel_rfl
theorem ty_arr80 : Tryz.prog.underlying 80 = some (.array 8 (ty 80).elem) := by kernel_rfl
theorem ty_arr (t k : Nat) (h : (ty t).arr = some k) : Tryz.prog.underlying t = some (.array k (ty t).elem) := by
 have hlt : t < 176 := by
  rcases Nat.lt_or_ge t 176 with h' | h'
  ·exact h'
  ·rw [ty_dflt t h'] at h
   cases h
 have h1 := List.all_eq_true.1 arr_in t (List.mem_range.2 hlt)
 rw [h] at h1
 have hmem : t ∈ tyArrs := by simpa using h1
 simp only [tyArrs, List.mem_cons, List.not_mem_nil, or_false] at hmem
 rcases hmem with rfl
 ·have e1 : (ty 80).arr = some 8 := by kernel_rfl
  rw [e1] at h
  have h2 : k = 8 := by injection h with h; exact h.symm
  rw [h2]
  exact ty_arr80
theorem tyOk : TOk Tryz.prog ty := ⟨ty_fact, ty_eq, by kernel_rfl, ty_gl, ty_arr⟩
def fnExt : List Nat := [0, 1, 78, 96, 108, 109, 118, 120, 121, 122, 123, 124, 125, 126, 127, 128, 129, 130, 131, 132, 133, 134, 135, 136, 137, 138, 139, 140, 141, 142, 143, 144, 145, 146, 147, 148]
def fnB (f : Nat) : Bool := decide (f < 150) && !fnExt.contains f
theorem fn_all : (List.range 150).all (fun f => !fnB f || (match Tryz.prog.funcs[f]? with | some fn => fn.body.isSome && !(fn.name == "runtime.NumGoroutine") | none => false)) = true := by kernel_rfl
theorem fn_ok (f : Nat) (h : fnB f = true) : HasBody Tryz.prog f := by
 have hlt : f < 150 := by
  unfold fnB at h
  simp only [Bool.and_eq_true, decide_eq_true_eq] at h
  exact h.1
 have h1 := List.all_eq_true.1 fn_all f (List.mem_range.2 hlt)
 rw [h] at h1
 simp only [Bool.not_true, Bool.false_or] at h1
 unfold HasBody
 cases hf : Tryz.prog.funcs[f]? with
 | none => rw [hf] at h1; cases h1
 | some fn =>
  rw [hf] at h1
  simp only [Bool.and_eq_true, Bool.not_eq_true'] at h1
  exact ⟨fn, rfl, h1.1, h1.2⟩
end Go.Proofs.YthoipikkaelohaaGreatDoor
namespace Go.Proofs.YthoipikkaelohaaGreatDoor
open Go Go.Ma
noncomputable def addr_Check_env : Env := mkEnv ty fnB [] []
theorem addr_Check_envOk : EnvOk Tryz.prog addr_Check_env := envOk tyOk fn_ok callsNil _
noncomputable def addr_Check_con : Con := con [.one (.fl .addr)] [.one (.fl .int)] (fun x => addr_Check_t x.1)
theorem addr_Check_ok : TrOk Tryz.prog 42 addr_Check_con := by
 have h : loopsOf (codeOf Tryz.f42) = [] := by kernel_rfl
 refine con_ok addr_Check_envOk Tryz.func42 (bodyOk h lsNil) _ _ _ (fun x => ?_)
 kernel_rfl
noncomputable def prefix_Wide_env : Env := mkEnv ty fnB [] []
theorem prefix_Wide_envOk : EnvOk Tryz.prog prefix_Wide_env := envOk tyOk fn_ok callsNil _
noncomputable def prefix_Wide_con : Con := con [.one (.fl .addr)] [.one (.fl .int)] (fun x => prefix_Wide_t x.1)
theorem prefix_Wide_ok : TrOk Tryz.prog 27 prefix_Wide_con := by
 have h : loopsOf (codeOf Tryz.f27) = [] := by kernel_rfl
 refine con_ok prefix_Wide_envOk Tryz.func27 (bodyOk h lsNil) _ _ _ (fun x => ?_)
 kernel_rfl
noncomputable def prefix_mask_env : Env := mkEnv ty fnB [(27, prefix_Wide_con)] []
theorem prefix_mask_envOk : EnvOk Tryz.prog prefix_mask_env := envOk tyOk fn_ok (callsCons prefix_Wide_ok callsNil) _
noncomputable def prefix_mask_con : Con := con [.one (.fl .addr), .one (.fl .int)] [.one (.fl .addr)] (fun x => prefix_mask_t x.1 x.2.1)
theorem prefix_mask_ok : TrOk Tryz.prog 51 prefix_mask_con := by
 have h : loopsOf (codeOf Tryz.f51) = [] := by kernel_rfl
 refine con_ok prefix_mask_envOk Tryz.func51 (bodyOk h lsNil) _ _ _ (fun x => ?_)
 kernel_rfl
noncomputable def prefix_Cut_env : Env := mkEnv ty fnB [(51, prefix_mask_con)] []
theorem prefix_Cut_envOk : EnvOk Tryz.prog prefix_Cut_env := envOk tyOk fn_ok (callsCons prefix_mask_ok callsNil) _
noncomputable def prefix_Cut_con : Con := con [.one (.fl .addr), .one (.fl .int)] [.one (.fl .addr)] (fun x => prefix_Cut_t x.1 x.2.1)
theorem prefix_Cut_ok : TrOk Tryz.prog 43 prefix_Cut_con := by
 have h : loopsOf (codeOf Tryz.f43) = [] := by kernel_rfl
 refine con_ok prefix_Cut_envOk Tryz.func43 (bodyOk h lsNil) _ _ _ (fun x => ?_)
 kernel_rfl
noncomputable def prefix_Check_env : Env := mkEnv ty fnB [(42, addr_Check_con), (27, prefix_Wide_con), (43, prefix_Cut_con)] []
theorem prefix_Check_envOk : EnvOk Tryz.prog prefix_Check_env := envOk tyOk fn_ok (callsCons addr_Check_ok (callsCons prefix_Wide_ok (callsCons prefix_Cut_ok callsNil))) _
noncomputable def prefix_Check_con : Con := con [.one (.fl .pfx)] [.one (.fl .int)] (fun x => zq7 x.1)
theorem prefix_Check_ok : TrOk Tryz.prog 18 prefix_Check_con := by
 have h : loopsOf (codeOf Tryz.f18) = [] := by kernel_rfl
 refine con_ok prefix_Check_envOk Tryz.func18 (bodyOk h lsNil) _ _ _ (fun x => ?_)
 kernel_rfl
noncomputable def addr_group_env : Env := mkEnv ty fnB [] []
theorem addr_group_envOk : EnvOk Tryz.prog addr_group_env := envOk tyOk fn_ok callsNil _
noncomputable def addr_group_con : Con := con [.one (.fl .addr), .one (.fl .int)] [.one (.fl .u64)] (fun x => addr_group_t x.1 x.2.1)
theorem addr_group_ok : TrOk Tryz.prog 75 addr_group_con := by
 have h : loopsOf (codeOf Tryz.f75) = [] := by kernel_rfl
 refine con_ok addr_group_envOk Tryz.func75 (bodyOk h lsNil) _ _ _ (fun x => ?_)
 kernel_rfl
def addr_row_L2_S : LoopS := { n := 21, base := 0, head := { keep := [1, 2, 5], vals := [.one (.fl .int), .one (.cst (.ptr 0 0)), .one (.fl .int)], objs := [.blk [.fl .addr] 24 true] }, exits := [⟨some 0, { keep := [5], vals := [.one (.fl .int)], objs := [] }⟩] }
noncomputable def addr_row_env : Env := mkEnv ty fnB [(75, addr_group_con)] [(2, (loopTr addr_row_L2_S (loopN addr_row_L2 FUEL)))]
theorem addr_row_envOk : EnvOk Tryz.prog addr_row_env := envOk tyOk fn_ok (callsCons addr_group_ok callsNil) _
theorem addr_row_L2_ok : LOk Tryz.prog (nthLoop (codeOf Tryz.f74) 0) (loopTr addr_row_L2_S (loopN addr_row_L2 FUEL)) := by
 have h : loopsOf (nthLoop (codeOf Tryz.f74) 0) = [] := by kernel_rfl
 refine loop_ok addr_row_envOk (loopsOk h lsNil) addr_row_L2_S addr_row_L2 FUEL (fun rec x => ?_)
 kernel_rfl
noncomputable def addr_row_con : Con := con [.one (.fl .addr), .one (.fl .int)] [.one (.fl .int)] (fun x => addr_row_t x.1 x.2.1)
theorem addr_row_ok : TrOk Tryz.prog 74 addr_row_con := by
 have h : loopsOf (codeOf Tryz.f74) = [(nthLoop (codeOf Tryz.f74) 0)] := by kernel_rfl
 refine con_ok addr_row_envOk Tryz.func74 (bodyOk h (lsCons (one_loop (t := (loopTr addr_row_L2_S (loopN addr_row_L2 FUEL))) (by kernel_rfl) addr_row_L2_ok) lsNil)) _ _ _ (fun x => ?_)
 kernel_rfl
def addr_longest_L3_S : LoopS := { n := 24, base := 0, head := { keep := [1, 4, 5, 8], vals := [.one (.cst (.ptr 0 0)), .one (.fl .int), .one (.fl .int), .one (.fl .int)], objs := [.blk [.fl .addr] 24 true] }, exits := [⟨some 0, { keep := [4, 5], vals := [.one (.fl .int), .one (.fl .int)], objs := [] }⟩] }
noncomputable def addr_longest_env : Env := mkEnv ty fnB [(74, addr_row_con)] [(3, (loopTr addr_longest_L3_S (loopN zq1 FUEL)))]
theorem addr_longest_envOk : EnvOk Tryz.prog addr_longest_env := envOk tyOk fn_ok (callsCons addr_row_ok callsNil) _
theorem addr_longest_L3_ok : LOk Tryz.prog (nthLoop (codeOf Tryz.f58) 0) (loopTr addr_longest_L3_S (loopN zq1 FUEL)) := by
 have h : loopsOf (nthLoop (codeOf Tryz.f58) 0) = [] := by kernel_rfl
 refine loop_ok addr_longest_envOk (loopsOk h lsNil) addr_longest_L3_S zq1 FUEL (fun rec x => ?_)
 kernel_rfl
noncomputable def addr_longest_con : Con := con [.one (.fl .addr)] [.one (.fl .int), .one (.fl .int)] (fun x => addr_longest_t x.1)
theorem addr_longest_ok : TrOk Tryz.prog 58 addr_longest_con := by
 have h : loopsOf (codeOf Tryz.f58) = [(nthLoop (codeOf Tryz.f58) 0)] := by kernel_rfl
 refine con_ok addr_longest_envOk Tryz.func58 (bodyOk h (lsCons (one_loop (t := (loopTr addr_longest_L3_S (loopN zq1 FUEL))) (by kernel_rfl) addr_longest_L3_ok) lsNil)) _ _ _ (fun x => ?_)
 kernel_rfl
def prefix_two_L2_S : LoopS := { n := 18, base := 1, head := { keep := [6, 7, 8], vals := [.one (.cst (.row 0)), .one (.fl .int), .one (.fl .int)], objs := [.row .pfx 26 false] }, exits := [⟨none, { keep := [2], vals := [.one (.fl .int)], objs := [.row .pfx 26 false] }⟩, ⟨some 0, { keep := [], vals := [], objs := [.row .pfx 26 false] }⟩] }
noncomputable def prefix_two_env : Env := mkEnv ty fnB [(18, prefix_Check_con)] [(2, (loopTr prefix_two_L2_S (loopN prefix_two_L2 FUEL)))]
theorem prefix_two_envOk : EnvOk Tryz.prog prefix_two_env := envOk tyOk fn_ok (callsCons prefix_Check_ok callsNil) _
theorem prefix_two_L2_ok : LOk Tryz.prog (nthLoop (codeOf Tryz.f24) 0) (loopTr prefix_two_L2_S (loopN prefix_two_L2 FUEL)) := by
 have h : loopsOf (nthLoop (codeOf Tryz.f24) 0) = [] := by kernel_rfl
 refine loop_ok prefix_two_envOk (loopsOk h lsNil) prefix_two_L2_S prefix_two_L2 FUEL (fun rec x => ?_)
 kernel_rfl
noncomputable def prefix_two_con : Con := con [.one (.row .pfx 26)] [.one (.fl .int)] (fun x => prefix_two_t x.1)
theorem prefix_two_ok : TrOk Tryz.prog 24 prefix_two_con := by
 have h : loopsOf (codeOf Tryz.f24) = [(nthLoop (codeOf Tryz.f24) 0)] := by kernel_rfl
 refine con_ok prefix_two_envOk Tryz.func24 (bodyOk h (lsCons (one_loop (t := (loopTr prefix_two_L2_S (loopN prefix_two_L2 FUEL))) (by kernel_rfl) prefix_two_L2_ok) lsNil)) _ _ _ (fun x => ?_)
 kernel_rfl
noncomputable def prefix_Holds_env : Env := mkEnv ty fnB [(43, prefix_Cut_con)] []
theorem prefix_Holds_envOk : EnvOk Tryz.prog prefix_Holds_env := envOk tyOk fn_ok (callsCons prefix_Cut_ok callsNil) _
noncomputable def prefix_Holds_con : Con := con [.one (.fl .pfx), .one (.fl .addr)] [.one (.fl .bool)] (fun x => prefix_Holds_t x.1 x.2.1)
theorem prefix_Holds_ok : TrOk Tryz.prog 50 prefix_Holds_con := by
 have h : loopsOf (codeOf Tryz.f50) = [] := by kernel_rfl
 refine con_ok prefix_Holds_envOk Tryz.func50 (bodyOk h lsNil) _ _ _ (fun x => ?_)
 kernel_rfl
noncomputable def prefix_Over_env : Env := mkEnv ty fnB [(50, prefix_Holds_con)] []
theorem prefix_Over_envOk : EnvOk Tryz.prog prefix_Over_env := envOk tyOk fn_ok (callsCons prefix_Holds_ok callsNil) _
noncomputable def prefix_Over_con : Con := con [.one (.fl .pfx), .one (.fl .pfx)] [.one (.fl .bool)] (fun x => prefix_Over_t x.1 x.2.1)
theorem prefix_Over_ok : TrOk Tryz.prog 25 prefix_Over_con := by
 have h : loopsOf (codeOf Tryz.f25) = [] := by kernel_rfl
 refine con_ok prefix_Over_envOk Tryz.func25 (bodyOk h lsNil) _ _ _ (fun x => ?_)
 kernel_rfl
noncomputable def prefix_Has_env : Env := mkEnv ty fnB [(24, prefix_two_con), (25, prefix_Over_con)] []
theorem prefix_Has_envOk : EnvOk Tryz.prog prefix_Has_env := envOk tyOk fn_ok (callsCons prefix_two_ok (callsCons prefix_Over_ok callsNil)) _
noncomputable def prefix_Has_con : Con := con [.one (.fl .pfx), .one (.fl .pfx)] [.one (.fl .bool), .one (.fl .int)] (fun x => prefix_Has_t x.1 x.2.1)
theorem prefix_Has_ok : TrOk Tryz.prog 6 prefix_Has_con := by
 have h : loopsOf (codeOf Tryz.f6) = [] := by kernel_rfl
 refine con_ok prefix_Has_envOk Tryz.func6 (bodyOk h lsNil) _ _ _ (fun x => ?_)
 kernel_rfl
noncomputable def prefix_Last_env : Env := mkEnv ty fnB [(51, prefix_mask_con)] []
theorem prefix_Last_envOk : EnvOk Tryz.prog prefix_Last_env := envOk tyOk fn_ok (callsCons prefix_mask_ok callsNil) _
noncomputable def prefix_Last_con : Con := con [.one (.fl .pfx)] [.one (.fl .addr)] (fun x => prefix_Last_t x.1)
theorem prefix_Last_ok : TrOk Tryz.prog 26 prefix_Last_con := by
 have h : loopsOf (codeOf Tryz.f26) = [] := by kernel_rfl
 refine con_ok prefix_Last_envOk Tryz.func26 (bodyOk h lsNil) _ _ _ (fun x => ?_)
 kernel_rfl
noncomputable def prefix_Ends_env : Env := mkEnv ty fnB [(18, prefix_Check_con), (26, prefix_Last_con)] []
theorem prefix_Ends_envOk : EnvOk Tryz.prog prefix_Ends_env := envOk tyOk fn_ok (callsCons prefix_Check_ok (callsCons prefix_Last_ok callsNil)) _
noncomputable def prefix_Ends_con : Con := con [.one (.fl .pfx)] [.one (.fl .addr), .one (.fl .addr), .one (.fl .int)] (fun x => prefix_Ends_t x.1)
theorem prefix_Ends_ok : TrOk Tryz.prog 7 prefix_Ends_con := by
 have h : loopsOf (codeOf Tryz.f7) = [] := by kernel_rfl
 refine con_ok prefix_Ends_envOk Tryz.func7 (bodyOk h lsNil) _ _ _ (fun x => ?_)
 kernel_rfl
noncomputable def addr_After_env : Env := mkEnv ty fnB [] []
theorem addr_After_envOk : EnvOk Tryz.prog addr_After_env := envOk tyOk fn_ok callsNil _
noncomputable def addr_After_con : Con := con [.one (.fl .addr)] [.one (.fl .addr), .one (.fl .bool)] (fun x => addr_After_t x.1)
theorem addr_After_ok : TrOk Tryz.prog 52 addr_After_con := by
 have h : loopsOf (codeOf Tryz.f52) = [] := by kernel_rfl
 refine con_ok addr_After_envOk Tryz.func52 (bodyOk h lsNil) _ _ _ (fun x => ?_)
 kernel_rfl
noncomputable def prefix_Split_env : Env := mkEnv ty fnB [(26, prefix_Last_con), (52, addr_After_con)] []
theorem prefix_Split_envOk : EnvOk Tryz.prog prefix_Split_env := envOk tyOk fn_ok (callsCons prefix_Last_ok (callsCons addr_After_ok callsNil)) _
noncomputable def prefix_Split_con : Con := con [.one (.fl .pfx)] [.one (.fl .pfx), .one (.fl .pfx)] (fun x => prefix_Split_t x.1)
theorem prefix_Split_ok : TrOk Tryz.prog 28 prefix_Split_con := by
 have h : loopsOf (codeOf Tryz.f28) = [] := by kernel_rfl
 refine con_ok prefix_Split_envOk Tryz.func28 (bodyOk h lsNil) _ _ _ (fun x => ?_)
 kernel_rfl
noncomputable def prefix_Halves_env : Env := mkEnv ty fnB [(18, prefix_Check_con), (27, prefix_Wide_con), (28, prefix_Split_con)] []
theorem prefix_Halves_envOk : EnvOk Tryz.prog prefix_Halves_env := envOk tyOk fn_ok (callsCons prefix_Check_ok (callsCons prefix_Wide_ok (callsCons prefix_Split_ok callsNil))) _
noncomputable def prefix_Halves_con : Con := con [.one (.fl .pfx)] [.one (.fl .pfx), .one (.fl .pfx), .one (.fl .int)] (fun x => prefix_Halves_t x.1)
theorem prefix_Halves_ok : TrOk Tryz.prog 8 prefix_Halves_con := by
 have h : loopsOf (codeOf Tryz.f8) = [] := by kernel_rfl
 refine con_ok prefix_Halves_envOk Tryz.func8 (bodyOk h lsNil) _ _ _ (fun x => ?_)
 kernel_rfl
noncomputable def prefix_Joined_env : Env := mkEnv ty fnB [(43, prefix_Cut_con), (28, prefix_Split_con)] []
theorem prefix_Joined_envOk : EnvOk Tryz.prog prefix_Joined_env := envOk tyOk fn_ok (callsCons prefix_Cut_ok (callsCons prefix_Split_ok callsNil)) _
noncomputable def prefix_Joined_con : Con := con [.one (.fl .pfx), .one (.fl .pfx)] [.one (.fl .pfx), .one (.fl .bool)] (fun x => prefix_Joined_t x.1 x.2.1)
theorem prefix_Joined_ok : TrOk Tryz.prog 29 prefix_Joined_con := by
 have h : loopsOf (codeOf Tryz.f29) = [] := by kernel_rfl
 refine con_ok prefix_Joined_envOk Tryz.func29 (bodyOk h lsNil) _ _ _ (fun x => ?_)
 kernel_rfl
noncomputable def prefix_Whole_env : Env := mkEnv ty fnB [(24, prefix_two_con), (29, prefix_Joined_con)] []
theorem prefix_Whole_envOk : EnvOk Tryz.prog prefix_Whole_env := envOk tyOk fn_ok (callsCons prefix_two_ok (callsCons prefix_Joined_ok callsNil)) _
noncomputable def prefix_Whole_con : Con := con [.one (.fl .pfx), .one (.fl .pfx)] [.one (.fl .pfx), .one (.fl .int)] (fun x => prefix_Whole_t x.1 x.2.1)
theorem prefix_Whole_ok : TrOk Tryz.prog 9 prefix_Whole_con := by
 have h : loopsOf (codeOf Tryz.f9) = [] := by kernel_rfl
 refine con_ok prefix_Whole_envOk Tryz.func9 (bodyOk h lsNil) _ _ _ (fun x => ?_)
 kernel_rfl
noncomputable def R_CheckAddr_env : Env := mkEnv ty fnB [] []
theorem R_CheckAddr_envOk : EnvOk Tryz.prog R_CheckAddr_env := envOk tyOk fn_ok callsNil _
noncomputable def R_CheckAddr_con : Con := con [.one (.fl .addr)] [.one (.fl .int)] (fun x => R_CheckAddr_t x.1)
theorem R_CheckAddr_ok : TrOk Tryz.prog 30 R_CheckAddr_con := by
 have h : loopsOf (codeOf Tryz.f30) = [] := by kernel_rfl
 refine con_ok R_CheckAddr_envOk Tryz.func30 (bodyOk h lsNil) _ _ _ (fun x => ?_)
 kernel_rfl
noncomputable def R_wide_env : Env := mkEnv ty fnB [] []
theorem R_wide_envOk : EnvOk Tryz.prog R_wide_env := envOk tyOk fn_ok callsNil _
noncomputable def R_wide_con : Con := con [.one (.fl .addr)] [.one (.fl .int)] (fun x => R_wide_t x.1)
theorem R_wide_ok : TrOk Tryz.prog 32 R_wide_con := by
 have h : loopsOf (codeOf Tryz.f32) = [] := by kernel_rfl
 refine con_ok R_wide_envOk Tryz.func32 (bodyOk h lsNil) _ _ _ (fun x => ?_)
 kernel_rfl
noncomputable def R_between_env : Env := mkEnv ty fnB [] []
theorem R_between_envOk : EnvOk Tryz.prog R_between_env := envOk tyOk fn_ok callsNil _
noncomputable def R_between_con : Con := con [.one (.fl .int), .one (.fl .int), .one (.fl .int)] [.one (.fl .bool)] (fun x => R_between_t x.1 x.2.1 x.2.2.1)
theorem R_between_ok : TrOk Tryz.prog 31 R_between_con := by
 have h : loopsOf (codeOf Tryz.f31) = [] := by kernel_rfl
 refine con_ok R_between_envOk Tryz.func31 (bodyOk h lsNil) _ _ _ (fun x => ?_)
 kernel_rfl
def R_Bits_L3_S : LoopS := { n := 42, base := 0, head := { keep := [1, 3, 4], vals := [.one (.cst (.ptr 0 0)), .one (.cst (.row 1)), .one (.fl .int)], objs := [.blk [.fl .addr] 24 true, .row .u8 5 true] }, exits := [⟨some 0, { keep := [1, 3], vals := [.one (.cst (.ptr 0 0)), .one (.cst (.row 1))], objs := [.blk [.fl .addr] 24 true, .row .u8 5 true] }⟩] }
def R_Bits_L7_S : LoopS := { n := 42, base := 0, head := { keep := [1, 3, 5], vals := [.one (.cst (.ptr 0 0)), .one (.cst (.row 1)), .one (.fl .int)], objs := [.blk [.fl .addr] 24 true, .row .u8 5 true] }, exits := [⟨some 2, { keep := [1, 3], vals := [.one (.cst (.ptr 0 0)), .one (.cst (.row 1))], objs := [.blk [.fl .addr] 24 true, .row .u8 5 true] }⟩] }
noncomputable def R_Bits_env : Env := mkEnv ty fnB [] [(3, (loopTr R_Bits_L3_S (loopN R_Bits_L3 FUEL))), (7, (loopTr R_Bits_L7_S (loopN R_Bits_L7 FUEL)))]
theorem R_Bits_envOk : EnvOk Tryz.prog R_Bits_env := envOk tyOk fn_ok callsNil _
theorem R_Bits_L7_ok : LOk Tryz.prog (nthLoop (codeOf Tryz.f13) 1) (loopTr R_Bits_L7_S (loopN R_Bits_L7 FUEL)) := by
 have h : loopsOf (nthLoop (codeOf Tryz.f13) 1) = [] := by kernel_rfl
 refine loop_ok R_Bits_envOk (loopsOk h lsNil) R_Bits_L7_S R_Bits_L7 FUEL (fun rec x => ?_)
 kernel_rfl
theorem R_Bits_L3_ok : LOk Tryz.prog (nthLoop (codeOf Tryz.f13) 0) (loopTr R_Bits_L3_S (loopN R_Bits_L3 FUEL)) := by
 have h : loopsOf (nthLoop (codeOf Tryz.f13) 0) = [] := by kernel_rfl
 refine loop_ok R_Bits_envOk (loopsOk h lsNil) R_Bits_L3_S R_Bits_L3 FUEL (fun rec x => ?_)
 kernel_rfl
noncomputable def R_Bits_con : Con := con [.one (.fl .addr)] [.one (.fl .str)] (fun x => R_Bits_t x.1)
theorem R_Bits_ok : TrOk Tryz.prog 13 R_Bits_con := by
 have h : loopsOf (codeOf Tryz.f13) = [(nthLoop (codeOf Tryz.f13) 0), (nthLoop (codeOf Tryz.f13) 1)] := by kernel_rfl
 refine con_ok R_Bits_envOk Tryz.func13 (bodyOk h (lsCons (one_loop (t := (loopTr R_Bits_L3_S (loopN R_Bits_L3 FUEL))) (by kernel_rfl) R_Bits_L3_ok) (lsCons (one_loop (t := (loopTr R_Bits_L7_S (loopN R_Bits_L7 FUEL))) (by kernel_rfl) R_Bits_L7_ok) lsNil))) _ _ _ (fun x => ?_)
 kernel_rfl
def R_CheckPrefix_L8_S : LoopS := { n := 34, base := 0, head := { keep := [4, 5], vals := [.one (.fl .str), .one (.fl .int)], objs := [] }, exits := [⟨none, { keep := [2], vals := [.one (.fl .int)], objs := [] }⟩, ⟨some 0, { keep := [], vals := [], objs := [] }⟩] }
noncomputable def R_CheckPrefix_env : Env := mkEnv ty fnB [(30, R_CheckAddr_con), (32, R_wide_con), (31, R_between_con), (13, R_Bits_con)] [(8, (loopTr R_CheckPrefix_L8_S (loopN R_CheckPrefix_L8 FUEL)))]
theorem R_CheckPrefix_envOk : EnvOk Tryz.prog R_CheckPrefix_env := envOk tyOk fn_ok (callsCons R_CheckAddr_ok (callsCons R_wide_ok (callsCons R_between_ok (callsCons R_Bits_ok callsNil)))) _
theorem R_CheckPrefix_L8_ok : LOk Tryz.prog (nthLoop (codeOf Tryz.f10) 0) (loopTr R_CheckPrefix_L8_S (loopN R_CheckPrefix_L8 FUEL)) := by
 have h : loopsOf (nthLoop (codeOf Tryz.f10) 0) = [] := by kernel_rfl
 refine loop_ok R_CheckPrefix_envOk (loopsOk h lsNil) R_CheckPrefix_L8_S R_CheckPrefix_L8 FUEL (fun rec x => ?_)
 kernel_rfl
noncomputable def R_CheckPrefix_con : Con := con [.one (.fl .pfx)] [.one (.fl .int)] (fun x => R_CheckPrefix_t x.1)
theorem R_CheckPrefix_ok : TrOk Tryz.prog 10 R_CheckPrefix_con := by
 have h : loopsOf (codeOf Tryz.f10) = [(nthLoop (codeOf Tryz.f10) 0)] := by kernel_rfl
 refine con_ok R_CheckPrefix_envOk Tryz.func10 (bodyOk h (lsCons (one_loop (t := (loopTr R_CheckPrefix_L8_S (loopN R_CheckPrefix_L8 FUEL))) (by kernel_rfl) R_CheckPrefix_L8_ok) lsNil)) _ _ _ (fun x => ?_)
 kernel_rfl
def R_numberOf_L3_S : LoopS := { n := 20, base := 0, head := { keep := [0, 3, 4], vals := [.one (.fl .str), .one (.fl .int), .one (.fl .int)], objs := [] }, exits := [⟨some 0, { keep := [3], vals := [.one (.fl .int)], objs := [] }⟩] }
noncomputable def R_numberOf_env : Env := mkEnv ty fnB [] [(3, (loopTr R_numberOf_L3_S (loopN R_numberOf_L3 FUEL)))]
theorem R_numberOf_envOk : EnvOk Tryz.prog R_numberOf_env := envOk tyOk fn_ok callsNil _
theorem R_numberOf_L3_ok : LOk Tryz.prog (nthLoop (codeOf Tryz.f53) 0) (loopTr R_numberOf_L3_S (loopN R_numberOf_L3 FUEL)) := by
 have h : loopsOf (nthLoop (codeOf Tryz.f53) 0) = [] := by kernel_rfl
 refine loop_ok R_numberOf_envOk (loopsOk h lsNil) R_numberOf_L3_S R_numberOf_L3 FUEL (fun rec x => ?_)
 kernel_rfl
noncomputable def R_numberOf_con : Con := con [.one (.fl .str)] [.one (.fl .int)] (fun x => R_numberOf_t x.1)
theorem R_numberOf_ok : TrOk Tryz.prog 53 R_numberOf_con := by
 have h : loopsOf (codeOf Tryz.f53) = [(nthLoop (codeOf Tryz.f53) 0)] := by kernel_rfl
 refine con_ok R_numberOf_envOk Tryz.func53 (bodyOk h (lsCons (one_loop (t := (loopTr R_numberOf_L3_S (loopN R_numberOf_L3 FUEL))) (by kernel_rfl) R_numberOf_L3_ok) lsNil)) _ _ _ (fun x => ?_)
 kernel_rfl
noncomputable def R_Digits_env (R_Digits_rec_con : Con) : Env := mkEnv ty fnB [(34, R_Digits_rec_con)] []
theorem R_Digits_envOk {R_Digits_rec_con : Con} (R_Digits_rec_ok : TrOk Tryz.prog 34 R_Digits_rec_con) : EnvOk Tryz.prog (R_Digits_env R_Digits_rec_con) := envOk tyOk fn_ok (callsCons R_Digits_rec_ok callsNil) _
theorem R_Digits_step_ok (R_Digits_rec_t : Int → Int → Option (ByteArray × Unit)) (R_Digits_rec_ok : TrOk Tryz.prog 34 (con [.one (.fl .int), .one (.fl .int)] [.one (.fl .str)] (fun x => R_Digits_rec_t x.1 x.2.1))) : TrOk Tryz.prog 34 (con [.one (.fl .int), .one (.fl .int)] [.one (.fl .str)] (fun x => R_Digits_step R_Digits_rec_t x.1 x.2.1)) := by
 have h : loopsOf (codeOf Tryz.f34) = [] := by kernel_rfl
 refine con_ok (R_Digits_envOk R_Digits_rec_ok) Tryz.func34 (bodyOk h lsNil) _ _ _ (fun x => ?_)
 kernel_rfl
theorem R_Digits_fuel_ok : ∀ n, TrOk Tryz.prog 34 (con [.one (.fl .int), .one (.fl .int)] [.one (.fl .str)] (fun x => R_Digits_fuel n x.1 x.2.1))
 | 0 => con_none Tryz.prog 34 [.one (.fl .int), .one (.fl .int)] [.one (.fl .str)]
 | n + 1 => R_Digits_step_ok _ (R_Digits_fuel_ok n)
noncomputable def R_Digits_con : Con := con [.one (.fl .int), .one (.fl .int)] [.one (.fl .str)] (fun x => R_Digits_t x.1 x.2.1)
theorem R_Digits_ok : TrOk Tryz.prog 34 R_Digits_con := R_Digits_fuel_ok RECN
def R_TextOf_L6_S : LoopS := { n := 108, base := 0, head := { keep := [3, 4, 5], vals := [.one (.fl .str), .one (.cst (.ep 0 0 1 0)), .one (.fl .int)], objs := [.row .int 80 true] }, exits := [⟨some 0, { keep := [4], vals := [.one (.cst (.ep 0 0 1 0))], objs := [.row .int 80 true] }⟩] }
def R_TextOf_L14_S : LoopS := { n := 108, base := 0, head := { keep := [4, 6, 7, 8, 9], vals := [.one (.cst (.ep 0 0 1 0)), .one (.fl .int), .one (.fl .int), .one (.fl .int), .one (.fl .int)], objs := [.row .int 80 true] }, exits := [⟨some 4, { keep := [4, 6, 7, 8, 9], vals := [.one (.cst (.ep 0 0 1 0)), .one (.fl .int), .one (.fl .int), .one (.fl .int), .one (.fl .int)], objs := [.row .int 80 true] }⟩] }
def R_TextOf_L11_S : LoopS := { n := 108, base := 0, head := { keep := [4, 6, 7, 8], vals := [.one (.cst (.ep 0 0 1 0)), .one (.fl .int), .one (.fl .int), .one (.fl .int)], objs := [.row .int 80 true] }, exits := [⟨some 2, { keep := [4, 6, 7], vals := [.one (.cst (.ep 0 0 1 0)), .one (.fl .int), .one (.fl .int)], objs := [.row .int 80 true] }⟩] }
def R_TextOf_L20_S : LoopS := { n := 108, base := 0, head := { keep := [4, 6, 7, 10, 11], vals := [.one (.cst (.ep 0 0 1 0)), .one (.fl .int), .one (.fl .int), .one (.fl .str), .one (.fl .int)], objs := [.row .int 80 true] }, exits := [⟨some 6, { keep := [10], vals := [.one (.fl .str)], objs := [] }⟩] }
noncomputable def R_TextOf_env : Env := mkEnv ty fnB [(13, R_Bits_con), (53, R_numberOf_con), (34, R_Digits_con)] [(6, (loopTr R_TextOf_L6_S (loopN R_TextOf_L6 FUEL))), (14, (loopTr R_TextOf_L14_S (loopN R_TextOf_L14 FUEL))), (11, (loopTr R_TextOf_L11_S (loopN R_TextOf_L11 FUEL))), (20, (loopTr R_TextOf_L20_S (loopN R_TextOf_L20 FUEL)))]
theorem R_TextOf_envOk : EnvOk Tryz.prog R_TextOf_env := envOk tyOk fn_ok (callsCons R_Bits_ok (callsCons R_numberOf_ok (callsCons R_Digits_ok callsNil))) _
theorem R_TextOf_L14_ok : LOk Tryz.prog (nthLoop (nthLoop (codeOf Tryz.f33) 1) 0) (loopTr R_TextOf_L14_S (loopN R_TextOf_L14 FUEL)) := by
 have h : loopsOf (nthLoop (nthLoop (codeOf Tryz.f33) 1) 0) = [] := by kernel_rfl
 refine loop_ok R_TextOf_envOk (loopsOk h lsNil) R_TextOf_L14_S R_TextOf_L14 FUEL (fun rec x => ?_)
 kernel_rfl
theorem R_TextOf_L20_ok : LOk Tryz.prog (nthLoop (codeOf Tryz.f33) 2) (loopTr R_TextOf_L20_S (loopN R_TextOf_L20 FUEL)) := by
 have h : loopsOf (nthLoop (codeOf Tryz.f33) 2) = [] := by kernel_rfl
 refine loop_ok R_TextOf_envOk (loopsOk h lsNil) R_TextOf_L20_S R_TextOf_L20 FUEL (fun rec x => ?_)
 kernel_rfl
theorem R_TextOf_L6_ok : LOk Tryz.prog (nthLoop (codeOf Tryz.f33) 0) (loopTr R_TextOf_L6_S (loopN R_TextOf_L6 FUEL)) := by
 have h : loopsOf (nthLoop (codeOf Tryz.f33) 0) = [] := by kernel_rfl
 refine loop_ok R_TextOf_envOk (loopsOk h lsNil) R_TextOf_L6_S R_TextOf_L6 FUEL (fun rec x => ?_)
 kernel_rfl
theorem R_TextOf_L11_ok : LOk Tryz.prog (nthLoop (codeOf Tryz.f33) 1) (loopTr R_TextOf_L11_S (loopN R_TextOf_L11 FUEL)) := by
 have h : loopsOf (nthLoop (codeOf Tryz.f33) 1) = [(nthLoop (nthLoop (codeOf Tryz.f33) 1) 0)] := by kernel_rfl
 refine loop_ok R_TextOf_envOk (loopsOk h (lsCons (one_loop (t := (loopTr R_TextOf_L14_S (loopN R_TextOf_L14 FUEL))) (by kernel_rfl) R_TextOf_L14_ok) lsNil)) R_TextOf_L11_S R_TextOf_L11 FUEL (fun rec x => ?_)
 kernel_rfl
noncomputable def R_TextOf_con : Con := con [.one (.fl .addr)] [.one (.fl .str)] (fun x => R_TextOf_t x.1)
theorem R_TextOf_ok : TrOk Tryz.prog 33 R_TextOf_con := by
 have h : loopsOf (codeOf Tryz.f33) = [(nthLoop (codeOf Tryz.f33) 0), (nthLoop (codeOf Tryz.f33) 1), (nthLoop (codeOf Tryz.f33) 2)] := by kernel_rfl
 refine con_ok R_TextOf_envOk Tryz.func33 (bodyOk h (lsCons (one_loop (t := (loopTr R_TextOf_L6_S (loopN R_TextOf_L6 FUEL))) (by kernel_rfl) R_TextOf_L6_ok) (lsCons (one_loop (t := (loopTr R_TextOf_L11_S (loopN R_TextOf_L11 FUEL))) (by kernel_rfl) R_TextOf_L11_ok) (lsCons (one_loop (t := (loopTr R_TextOf_L20_S (loopN R_TextOf_L20 FUEL))) (by kernel_rfl) R_TextOf_L20_ok) lsNil)))) _ _ _ (fun x => ?_)
 kernel_rfl
noncomputable def R_PrefixText_env : Env := mkEnv ty fnB [(33, R_TextOf_con), (34, R_Digits_con)] []
theorem R_PrefixText_envOk : EnvOk Tryz.prog R_PrefixText_env := envOk tyOk fn_ok (callsCons R_TextOf_ok (callsCons R_Digits_ok callsNil)) _
noncomputable def R_PrefixText_con : Con := con [.one (.fl .pfx)] [.one (.fl .str)] (fun x => R_PrefixText_t x.1)
theorem R_PrefixText_ok : TrOk Tryz.prog 11 R_PrefixText_con := by
 have h : loopsOf (codeOf Tryz.f11) = [] := by kernel_rfl
 refine con_ok R_PrefixText_envOk Tryz.func11 (bodyOk h lsNil) _ _ _ (fun x => ?_)
 kernel_rfl
def R_AddrOf_L3_S : LoopS := { n := 39, base := 0, head := { keep := [0, 2, 3, 4], vals := [.one (.fl .str), .one (.cst (.ptr 0 0)), .one (.cst (.ptr 1 0)), .one (.fl .int)], objs := [.blk [.fl .addr] 24 true, .blk [.fl .addr] 24 true] }, exits := [⟨some 0, { keep := [2, 3], vals := [.one (.cst (.ptr 0 0)), .one (.cst (.ptr 1 0))], objs := [.blk [.fl .addr] 24 true, .blk [.fl .addr] 24 true] }⟩] }
noncomputable def R_AddrOf_env : Env := mkEnv ty fnB [] [(3, (loopTr R_AddrOf_L3_S (loopN R_AddrOf_L3 FUEL)))]
theorem R_AddrOf_envOk : EnvOk Tryz.prog R_AddrOf_env := envOk tyOk fn_ok callsNil _
theorem R_AddrOf_L3_ok : LOk Tryz.prog (nthLoop (codeOf Tryz.f36) 0) (loopTr R_AddrOf_L3_S (loopN R_AddrOf_L3 FUEL)) := by
 have h : loopsOf (nthLoop (codeOf Tryz.f36) 0) = [] := by kernel_rfl
 refine loop_ok R_AddrOf_envOk (loopsOk h lsNil) R_AddrOf_L3_S R_AddrOf_L3 FUEL (fun rec x => ?_)
 kernel_rfl
noncomputable def R_AddrOf_con : Con := con [.one (.fl .str)] [.one (.fl .addr)] (fun x => R_AddrOf_t x.1)
theorem R_AddrOf_ok : TrOk Tryz.prog 36 R_AddrOf_con := by
 have h : loopsOf (codeOf Tryz.f36) = [(nthLoop (codeOf Tryz.f36) 0)] := by kernel_rfl
 refine con_ok R_AddrOf_envOk Tryz.func36 (bodyOk h (lsCons (one_loop (t := (loopTr R_AddrOf_L3_S (loopN R_AddrOf_L3 FUEL))) (by kernel_rfl) R_AddrOf_L3_ok) lsNil)) _ _ _ (fun x => ?_)
 kernel_rfl
def R_filled_L2_S : LoopS := { n := 23, base := 0, head := { keep := [1, 2, 4, 5], vals := [.one (.fl .str), .one (.cst (.ptr 0 0)), .one (.cst (.ptr 1 0)), .one (.fl .str)], objs := [.blk [.fl .pfx] 26 true, .blk [.fl .addr] 24 true] }, exits := [⟨some 0, { keep := [4, 5], vals := [.one (.cst (.ptr 0 0)), .one (.fl .str)], objs := [.blk [.fl .addr] 24 true] }⟩] }
noncomputable def R_filled_env : Env := mkEnv ty fnB [(13, R_Bits_con), (32, R_wide_con), (36, R_AddrOf_con)] [(2, (loopTr R_filled_L2_S (loopN R_filled_L2 FUEL)))]
theorem R_filled_envOk : EnvOk Tryz.prog R_filled_env := envOk tyOk fn_ok (callsCons R_Bits_ok (callsCons R_wide_ok (callsCons R_AddrOf_ok callsNil))) _
theorem R_filled_L2_ok : LOk Tryz.prog (nthLoop (codeOf Tryz.f35) 0) (loopTr R_filled_L2_S (loopN R_filled_L2 FUEL)) := by
 have h : loopsOf (nthLoop (codeOf Tryz.f35) 0) = [] := by kernel_rfl
 refine loop_ok R_filled_envOk (loopsOk h lsNil) R_filled_L2_S R_filled_L2 FUEL (fun rec x => ?_)
 kernel_rfl
noncomputable def R_filled_con : Con := con [.one (.fl .pfx), .one (.fl .str)] [.one (.fl .addr)] (fun x => R_filled_t x.1 x.2.1)
theorem R_filled_ok : TrOk Tryz.prog 35 R_filled_con := by
 have h : loopsOf (codeOf Tryz.f35) = [(nthLoop (codeOf Tryz.f35) 0)] := by kernel_rfl
 refine con_ok R_filled_envOk Tryz.func35 (bodyOk h (lsCons (one_loop (t := (loopTr R_filled_L2_S (loopN R_filled_L2 FUEL))) (by kernel_rfl) R_filled_L2_ok) lsNil)) _ _ _ (fun x => ?_)
 kernel_rfl
noncomputable def R_LastOf_env : Env := mkEnv ty fnB [(35, R_filled_con)] []
theorem R_LastOf_envOk : EnvOk Tryz.prog R_LastOf_env := envOk tyOk fn_ok (callsCons R_filled_ok callsNil) _
noncomputable def R_LastOf_con : Con := con [.one (.fl .pfx)] [.one (.fl .addr)] (fun x => R_LastOf_t x.1)
theorem R_LastOf_ok : TrOk Tryz.prog 12 R_LastOf_con := by
 have h : loopsOf (codeOf Tryz.f12) = [] := by kernel_rfl
 refine con_ok R_LastOf_envOk Tryz.func12 (bodyOk h lsNil) _ _ _ (fun x => ?_)
 kernel_rfl
def R_splitAt_L4_S : LoopS := { n := 34, base := 0, head := { keep := [0, 1, 5, 6, 7], vals := [.one (.fl .str), .one (.fl .u8), .one (.cst (.row 0)), .one (.fl .str), .one (.fl .int)], objs := [.row .str 9 true] }, exits := [⟨some 0, { keep := [5, 6], vals := [.one (.cst (.row 0)), .one (.fl .str)], objs := [.row .str 9 true] }⟩] }
noncomputable def R_splitAt_env : Env := mkEnv ty fnB [] [(4, (loopTr R_splitAt_L4_S (loopN R_splitAt_L4 FUEL)))]
theorem R_splitAt_envOk : EnvOk Tryz.prog R_splitAt_env := envOk tyOk fn_ok callsNil _
theorem R_splitAt_L4_ok : LOk Tryz.prog (nthLoop (codeOf Tryz.f37) 0) (loopTr R_splitAt_L4_S (loopN R_splitAt_L4 FUEL)) := by
 have h : loopsOf (nthLoop (codeOf Tryz.f37) 0) = [] := by kernel_rfl
 refine loop_ok R_splitAt_envOk (loopsOk h lsNil) R_splitAt_L4_S R_splitAt_L4 FUEL (fun rec x => ?_)
 kernel_rfl
noncomputable def R_splitAt_con : Con := con [.one (.fl .str), .one (.fl .u8)] [.one (.row .str 9)] (fun x => R_splitAt_t x.1 x.2.1)
theorem R_splitAt_ok : TrOk Tryz.prog 37 R_splitAt_con := by
 have h : loopsOf (codeOf Tryz.f37) = [(nthLoop (codeOf Tryz.f37) 0)] := by kernel_rfl
 refine con_ok R_splitAt_envOk Tryz.func37 (bodyOk h (lsCons (one_loop (t := (loopTr R_splitAt_L4_S (loopN R_splitAt_L4 FUEL))) (by kernel_rfl) R_splitAt_L4_ok) lsNil)) _ _ _ (fun x => ?_)
 kernel_rfl
noncomputable def R_bitsOf_env (R_bitsOf_rec_con : Con) : Env := mkEnv ty fnB [(68, R_bitsOf_rec_con), (34, R_Digits_con)] []
theorem R_bitsOf_envOk {R_bitsOf_rec_con : Con} (R_bitsOf_rec_ok : TrOk Tryz.prog 68 R_bitsOf_rec_con) : EnvOk Tryz.prog (R_bitsOf_env R_bitsOf_rec_con) := envOk tyOk fn_ok (callsCons R_bitsOf_rec_ok (callsCons R_Digits_ok callsNil)) _
theorem R_bitsOf_step_ok (R_bitsOf_rec_t : Int → Int → Option (ByteArray × Unit)) (R_bitsOf_rec_ok : TrOk Tryz.prog 68 (con [.one (.fl .int), .one (.fl .int)] [.one (.fl .str)] (fun x => R_bitsOf_rec_t x.1 x.2.1))) : TrOk Tryz.prog 68 (con [.one (.fl .int), .one (.fl .int)] [.one (.fl .str)] (fun x => R_bitsOf_step R_bitsOf_rec_t x.1 x.2.1)) := by
 have h : loopsOf (codeOf Tryz.f68) = [] := by kernel_rfl
 refine con_ok (R_bitsOf_envOk R_bitsOf_rec_ok) Tryz.func68 (bodyOk h lsNil) _ _ _ (fun x => ?_)
 kernel_rfl
theorem R_bitsOf_fuel_ok : ∀ n, TrOk Tryz.prog 68 (con [.one (.fl .int), .one (.fl .int)] [.one (.fl .str)] (fun x => R_bitsOf_fuel n x.1 x.2.1))
 | 0 => con_none Tryz.prog 68 [.one (.fl .int), .one (.fl .int)] [.one (.fl .str)]
 | n + 1 => R_bitsOf_step_ok _ (R_bitsOf_fuel_ok n)
noncomputable def R_bitsOf_con : Con := con [.one (.fl .int), .one (.fl .int)] [.one (.fl .str)] (fun x => R_bitsOf_t x.1 x.2.1)
theorem R_bitsOf_ok : TrOk Tryz.prog 68 R_bitsOf_con := R_bitsOf_fuel_ok RECN
def R_fourOf_L10_S : LoopS := { n := 74, base := 0, head := { keep := [4, 5, 6, 7, 8], vals := [.one (.cst (.row 0)), .one (.fl .str), .one (.fl .int), .one (.fl .int), .one (.fl .int)], objs := [.row .str 9 true] }, exits := [⟨none, { keep := [2, 3], vals := [.one (.fl .str), .one (.fl .bool)], objs := [] }⟩, ⟨some 2, { keep := [4, 5, 6, 7], vals := [.one (.cst (.row 0)), .one (.fl .str), .one (.fl .int), .one (.fl .int)], objs := [.row .str 9 true] }⟩] }
def R_fourOf_L6_S : LoopS := { n := 74, base := 0, head := { keep := [4, 5, 6], vals := [.one (.cst (.row 0)), .one (.fl .str), .one (.fl .int)], objs := [.row .str 9 true] }, exits := [⟨none, { keep := [2, 3], vals := [.one (.fl .str), .one (.fl .bool)], objs := [] }⟩, ⟨some 0, { keep := [5], vals := [.one (.fl .str)], objs := [] }⟩] }
noncomputable def R_fourOf_env : Env := mkEnv ty fnB [(37, R_splitAt_con), (31, R_between_con), (34, R_Digits_con), (68, R_bitsOf_con)] [(10, (loopTr R_fourOf_L10_S (loopN R_fourOf_L10 FUEL))), (6, (loopTr R_fourOf_L6_S (loopN R_fourOf_L6 FUEL)))]
theorem R_fourOf_envOk : EnvOk Tryz.prog R_fourOf_env := envOk tyOk fn_ok (callsCons R_splitAt_ok (callsCons R_between_ok (callsCons R_Digits_ok (callsCons R_bitsOf_ok callsNil)))) _
theorem R_fourOf_L10_ok : LOk Tryz.prog (nthLoop (nthLoop (codeOf Tryz.f54) 0) 0) (loopTr R_fourOf_L10_S (loopN R_fourOf_L10 FUEL)) := by
 have h : loopsOf (nthLoop (nthLoop (codeOf Tryz.f54) 0) 0) = [] := by kernel_rfl
 refine loop_ok R_fourOf_envOk (loopsOk h lsNil) R_fourOf_L10_S R_fourOf_L10 FUEL (fun rec x => ?_)
 kernel_rfl
theorem R_fourOf_L6_ok : LOk Tryz.prog (nthLoop (codeOf Tryz.f54) 0) (loopTr R_fourOf_L6_S (loopN R_fourOf_L6 FUEL)) := by
 have h : loopsOf (nthLoop (codeOf Tryz.f54) 0) = [(nthLoop (nthLoop (codeOf Tryz.f54) 0) 0)] := by kernel_rfl
 refine loop_ok R_fourOf_envOk (loopsOk h (lsCons (one_loop (t := (loopTr R_fourOf_L10_S (loopN R_fourOf_L10 FUEL))) (by kernel_rfl) R_fourOf_L10_ok) lsNil)) R_fourOf_L6_S R_fourOf_L6 FUEL (fun rec x => ?_)
 kernel_rfl
noncomputable def R_fourOf_con : Con := con [.one (.fl .str)] [.one (.fl .str), .one (.fl .bool)] (fun x => R_fourOf_t x.1)
theorem R_fourOf_ok : TrOk Tryz.prog 54 R_fourOf_con := by
 have h : loopsOf (codeOf Tryz.f54) = [(nthLoop (codeOf Tryz.f54) 0)] := by kernel_rfl
 refine con_ok R_fourOf_envOk Tryz.func54 (bodyOk h (lsCons (one_loop (t := (loopTr R_fourOf_L6_S (loopN R_fourOf_L6 FUEL))) (by kernel_rfl) R_fourOf_L6_ok) lsNil)) _ _ _ (fun x => ?_)
 kernel_rfl
def R_groupOf_L5_S : LoopS := { n := 49, base := 0, head := { keep := [0, 4, 5], vals := [.one (.fl .str), .one (.fl .int), .one (.fl .int)], objs := [] }, exits := [⟨none, { keep := [2, 3], vals := [.one (.fl .str), .one (.fl .bool)], objs := [] }⟩, ⟨some 0, { keep := [4], vals := [.one (.fl .int)], objs := [] }⟩] }
noncomputable def R_groupOf_env : Env := mkEnv ty fnB [(31, R_between_con), (68, R_bitsOf_con)] [(5, (loopTr R_groupOf_L5_S (loopN R_groupOf_L5 FUEL)))]
theorem R_groupOf_envOk : EnvOk Tryz.prog R_groupOf_env := envOk tyOk fn_ok (callsCons R_between_ok (callsCons R_bitsOf_ok callsNil)) _
theorem R_groupOf_L5_ok : LOk Tryz.prog (nthLoop (codeOf Tryz.f69) 0) (loopTr R_groupOf_L5_S (loopN R_groupOf_L5 FUEL)) := by
 have h : loopsOf (nthLoop (codeOf Tryz.f69) 0) = [] := by kernel_rfl
 refine loop_ok R_groupOf_envOk (loopsOk h lsNil) R_groupOf_L5_S R_groupOf_L5 FUEL (fun rec x => ?_)
 kernel_rfl
noncomputable def R_groupOf_con : Con := con [.one (.fl .str)] [.one (.fl .str), .one (.fl .bool)] (fun x => R_groupOf_t x.1)
theorem R_groupOf_ok : TrOk Tryz.prog 69 R_groupOf_con := by
 have h : loopsOf (codeOf Tryz.f69) = [(nthLoop (codeOf Tryz.f69) 0)] := by kernel_rfl
 refine con_ok R_groupOf_envOk Tryz.func69 (bodyOk h (lsCons (one_loop (t := (loopTr R_groupOf_L5_S (loopN R_groupOf_L5 FUEL))) (by kernel_rfl) R_groupOf_L5_ok) lsNil)) _ _ _ (fun x => ?_)
 kernel_rfl
def R_groupsOf_L6_S : LoopS := { n := 55, base := 0, head := { keep := [1, 6, 7, 8], vals := [.one (.fl .bool), .one (.cst (.row 0)), .one (.fl .str), .one (.fl .int)], objs := [.row .str 9 true] }, exits := [⟨none, { keep := [4, 5], vals := [.one (.fl .str), .one (.fl .bool)], objs := [] }⟩, ⟨some 0, { keep := [7], vals := [.one (.fl .str)], objs := [] }⟩] }
noncomputable def R_groupsOf_env : Env := mkEnv ty fnB [(37, R_splitAt_con), (69, R_groupOf_con), (54, R_fourOf_con)] [(6, (loopTr R_groupsOf_L6_S (loopN R_groupsOf_L6 FUEL)))]
theorem R_groupsOf_envOk : EnvOk Tryz.prog R_groupsOf_env := envOk tyOk fn_ok (callsCons R_splitAt_ok (callsCons R_groupOf_ok (callsCons R_fourOf_ok callsNil))) _
theorem R_groupsOf_L6_ok : LOk Tryz.prog (nthLoop (codeOf Tryz.f55) 0) (loopTr R_groupsOf_L6_S (loopN R_groupsOf_L6 FUEL)) := by
 have h : loopsOf (nthLoop (codeOf Tryz.f55) 0) = [] := by kernel_rfl
 refine loop_ok R_groupsOf_envOk (loopsOk h lsNil) R_groupsOf_L6_S R_groupsOf_L6 FUEL (fun rec x => ?_)
 kernel_rfl
noncomputable def R_groupsOf_con : Con := con [.one (.fl .str), .one (.fl .bool)] [.one (.fl .str), .one (.fl .bool)] (fun x => R_groupsOf_t x.1 x.2.1)
theorem R_groupsOf_ok : TrOk Tryz.prog 55 R_groupsOf_con := by
 have h : loopsOf (codeOf Tryz.f55) = [(nthLoop (codeOf Tryz.f55) 0)] := by kernel_rfl
 refine con_ok R_groupsOf_envOk Tryz.func55 (bodyOk h (lsCons (one_loop (t := (loopTr R_groupsOf_L6_S (loopN R_groupsOf_L6 FUEL))) (by kernel_rfl) R_groupsOf_L6_ok) lsNil)) _ _ _ (fun x => ?_)
 kernel_rfl
def R_ParseOf_L3_S : LoopS := { n := 119, base := 0, head := { keep := [0, 2, 4, 5, 6], vals := [.one (.fl .str), .one (.cst (.ptr 0 0)), .one (.fl .bool), .one (.fl .int), .one (.fl .int)], objs := [.blk [.fl .addr] 24 true] }, exits := [⟨some 0, { keep := [0, 2, 4, 5], vals := [.one (.fl .str), .one (.cst (.ptr 0 0)), .one (.fl .bool), .one (.fl .int)], objs := [.blk [.fl .addr] 24 true] }⟩] }
def R_ParseOf_L23_S : LoopS := { n := 119, base := 0, head := { keep := [2, 12, 14], vals := [.one (.cst (.ptr 0 0)), .one (.fl .str), .one (.fl .str)], objs := [.blk [.fl .addr] 24 true] }, exits := [⟨some 2, { keep := [2, 12, 14], vals := [.one (.cst (.ptr 0 0)), .one (.fl .str), .one (.fl .str)], objs := [.blk [.fl .addr] 24 true] }⟩] }
noncomputable def R_ParseOf_env : Env := mkEnv ty fnB [(54, R_fourOf_con), (36, R_AddrOf_con), (55, R_groupsOf_con)] [(3, (loopTr R_ParseOf_L3_S (loopN R_ParseOf_L3 FUEL))), (23, (loopTr R_ParseOf_L23_S (loopN R_ParseOf_L23 FUEL)))]
theorem R_ParseOf_envOk : EnvOk Tryz.prog R_ParseOf_env := envOk tyOk fn_ok (callsCons R_fourOf_ok (callsCons R_AddrOf_ok (callsCons R_groupsOf_ok callsNil))) _
theorem R_ParseOf_L23_ok : LOk Tryz.prog (nthLoop (codeOf Tryz.f38) 1) (loopTr R_ParseOf_L23_S (loopN R_ParseOf_L23 FUEL)) := by
 have h : loopsOf (nthLoop (codeOf Tryz.f38) 1) = [] := by kernel_rfl
 refine loop_ok R_ParseOf_envOk (loopsOk h lsNil) R_ParseOf_L23_S R_ParseOf_L23 FUEL (fun rec x => ?_)
 kernel_rfl
theorem R_ParseOf_L3_ok : LOk Tryz.prog (nthLoop (codeOf Tryz.f38) 0) (loopTr R_ParseOf_L3_S (loopN R_ParseOf_L3 FUEL)) := by
 have h : loopsOf (nthLoop (codeOf Tryz.f38) 0) = [] := by kernel_rfl
 refine loop_ok R_ParseOf_envOk (loopsOk h lsNil) R_ParseOf_L3_S R_ParseOf_L3 FUEL (fun rec x => ?_)
 kernel_rfl
noncomputable def R_ParseOf_con : Con := con [.one (.fl .str)] [.one (.fl .addr), .one (.fl .bool)] (fun x => R_ParseOf_t x.1)
theorem R_ParseOf_ok : TrOk Tryz.prog 38 R_ParseOf_con := by
 have h : loopsOf (codeOf Tryz.f38) = [(nthLoop (codeOf Tryz.f38) 0), (nthLoop (codeOf Tryz.f38) 1)] := by kernel_rfl
 refine con_ok R_ParseOf_envOk Tryz.func38 (bodyOk h (lsCons (one_loop (t := (loopTr R_ParseOf_L3_S (loopN R_ParseOf_L3 FUEL))) (by kernel_rfl) R_ParseOf_L3_ok) (lsCons (one_loop (t := (loopTr R_ParseOf_L23_S (loopN R_ParseOf_L23 FUEL))) (by kernel_rfl) R_ParseOf_L23_ok) lsNil))) _ _ _ (fun x => ?_)
 kernel_rfl
def R_NumberOf_L5_S : LoopS := { n := 35, base := 0, head := { keep := [0, 4, 5], vals := [.one (.fl .str), .one (.fl .int), .one (.fl .int)], objs := [] }, exits := [⟨none, { keep := [2, 3], vals := [.one (.fl .int), .one (.fl .bool)], objs := [] }⟩, ⟨some 0, { keep := [0, 4], vals := [.one (.fl .str), .one (.fl .int)], objs := [] }⟩] }
noncomputable def R_NumberOf_env : Env := mkEnv ty fnB [(31, R_between_con), (34, R_Digits_con)] [(5, (loopTr R_NumberOf_L5_S (loopN R_NumberOf_L5 FUEL)))]
theorem R_NumberOf_envOk : EnvOk Tryz.prog R_NumberOf_env := envOk tyOk fn_ok (callsCons R_between_ok (callsCons R_Digits_ok callsNil)) _
theorem R_NumberOf_L5_ok : LOk Tryz.prog (nthLoop (codeOf Tryz.f39) 0) (loopTr R_NumberOf_L5_S (loopN R_NumberOf_L5 FUEL)) := by
 have h : loopsOf (nthLoop (codeOf Tryz.f39) 0) = [] := by kernel_rfl
 refine loop_ok R_NumberOf_envOk (loopsOk h lsNil) R_NumberOf_L5_S R_NumberOf_L5 FUEL (fun rec x => ?_)
 kernel_rfl
noncomputable def R_NumberOf_con : Con := con [.one (.fl .str)] [.one (.fl .int), .one (.fl .bool)] (fun x => R_NumberOf_t x.1)
theorem R_NumberOf_ok : TrOk Tryz.prog 39 R_NumberOf_con := by
 have h : loopsOf (codeOf Tryz.f39) = [(nthLoop (codeOf Tryz.f39) 0)] := by kernel_rfl
 refine con_ok R_NumberOf_envOk Tryz.func39 (bodyOk h (lsCons (one_loop (t := (loopTr R_NumberOf_L5_S (loopN R_NumberOf_L5 FUEL))) (by kernel_rfl) R_NumberOf_L5_ok) lsNil)) _ _ _ (fun x => ?_)
 kernel_rfl
noncomputable def R_PrefixOf_env : Env := mkEnv ty fnB [(37, R_splitAt_con), (38, R_ParseOf_con), (39, R_NumberOf_con), (10, R_CheckPrefix_con)] []
theorem R_PrefixOf_envOk : EnvOk Tryz.prog R_PrefixOf_env := envOk tyOk fn_ok (callsCons R_splitAt_ok (callsCons R_ParseOf_ok (callsCons R_NumberOf_ok (callsCons R_CheckPrefix_ok callsNil)))) _
noncomputable def R_PrefixOf_con : Con := con [.one (.fl .str)] [.one (.fl .pfx), .one (.fl .int)] (fun x => R_PrefixOf_t x.1)
theorem R_PrefixOf_ok : TrOk Tryz.prog 16 R_PrefixOf_con := by
 have h : loopsOf (codeOf Tryz.f16) = [] := by kernel_rfl
 refine con_ok R_PrefixOf_envOk Tryz.func16 (bodyOk h lsNil) _ _ _ (fun x => ?_)
 kernel_rfl
noncomputable def law_v4_env : Env := mkEnv ty fnB [] []
theorem law_v4_envOk : EnvOk Tryz.prog law_v4_env := envOk tyOk fn_ok callsNil _
noncomputable def law_v4_con : Con := con [.one (.fl .u64)] [.one (.fl .addr)] (fun x => law_v4_t x.1)
theorem law_v4_ok : TrOk Tryz.prog 41 law_v4_con := by
 have h : loopsOf (codeOf Tryz.f41) = [] := by kernel_rfl
 refine con_ok law_v4_envOk Tryz.func41 (bodyOk h lsNil) _ _ _ (fun x => ?_)
 kernel_rfl
noncomputable def law_net_env : Env := mkEnv ty fnB [(41, law_v4_con)] []
theorem law_net_envOk : EnvOk Tryz.prog law_net_env := envOk tyOk fn_ok (callsCons law_v4_ok callsNil) _
noncomputable def law_net_con : Con := con [.one (.fl .u64), .one (.fl .int)] [.one (.fl .pfx)] (fun x => law_net_t x.1 x.2.1)
theorem law_net_ok : TrOk Tryz.prog 40 law_net_con := by
 have h : loopsOf (codeOf Tryz.f40) = [] := by kernel_rfl
 refine con_ok law_net_envOk Tryz.func40 (bodyOk h lsNil) _ _ _ (fun x => ?_)
 kernel_rfl
noncomputable def R_HasAddr_env : Env := mkEnv ty fnB [(13, R_Bits_con)] []
theorem R_HasAddr_envOk : EnvOk Tryz.prog R_HasAddr_env := envOk tyOk fn_ok (callsCons R_Bits_ok callsNil) _
noncomputable def R_HasAddr_con : Con := con [.one (.fl .pfx), .one (.fl .addr)] [.one (.fl .bool)] (fun x => R_HasAddr_t x.1 x.2.1)
theorem R_HasAddr_ok : TrOk Tryz.prog 44 R_HasAddr_con := by
 have h : loopsOf (codeOf Tryz.f44) = [] := by kernel_rfl
 refine con_ok R_HasAddr_envOk Tryz.func44 (bodyOk h lsNil) _ _ _ (fun x => ?_)
 kernel_rfl
noncomputable def R_HasPrefix_env : Env := mkEnv ty fnB [(44, R_HasAddr_con)] []
theorem R_HasPrefix_envOk : EnvOk Tryz.prog R_HasPrefix_env := envOk tyOk fn_ok (callsCons R_HasAddr_ok callsNil) _
noncomputable def R_HasPrefix_con : Con := con [.one (.fl .pfx), .one (.fl .pfx)] [.one (.fl .bool)] (fun x => R_HasPrefix_t x.1 x.2.1)
theorem R_HasPrefix_ok : TrOk Tryz.prog 19 R_HasPrefix_con := by
 have h : loopsOf (codeOf Tryz.f19) = [] := by kernel_rfl
 refine con_ok R_HasPrefix_envOk Tryz.func19 (bodyOk h lsNil) _ _ _ (fun x => ?_)
 kernel_rfl
end Go.Proofs.YthoipikkaelohaaGreatDoor
namespace Go.Proofs.YthoipikkaelohaaGreatDoor
open Go Go.Ma Go.RowKit Go.Proofs
theorem fin_out {P : Program} {T : Nat → TI} (hT : TOk P T) {W : World} {ρ : Nat → Value} {s : St} {a : Act} {w : World} (hs : RelS W ρ s a w) {fn : Func} {X : Type} {k : SV → Mem → Option X} {x : X} (h : fin T fn.results.toList k s = some x) :
  ∃ v, (results fn a.tmps).run P w = .ok v w ∧ ∃ ρ' r m', Ending.returned v = .returned (den ρ' r) ∧ RelM W ρ' m' w ∧ k r m' = some x := by
 unfold fin at h
 have hrun : ∀ l, resL T s fn.results.toList = some l → (results fn a.tmps).run P w = .ok (if h : (denL ρ l).toArray.size = 1 then (denL ρ l).toArray[0] else .tuple (denL ρ l).toArray) w := by
  intro l hl
  obtain ⟨h1, h2⟩ := resL_ok hT hs hl
  rw [results_eq, Sem.run_bind, Array.mapM_eq_mapM_toList, Sem.run_map, h1]
  rfl
 split at h
 ·rename_i v hv
  refine ⟨_, hrun _ hv, ρ, v, s.m, ?_, hs.m, h⟩
  simp [denL]
 ·rename_i l hne hl
  refine ⟨_, hrun _ hl, ρ, .tup l, s.m, ?_, hs.m, h⟩
  have : l.length ≠ 1 := by
   intro h
   match l, h with
   | [v], _ => exact hne v rfl
  simp [zq4, this, den]
 ·cases h
theorem hv_cells {C : Array Value} {l : List UInt8} (h : ∀ q (h : q < l.length), C[q]? = some (.int .u8 (l[q].toNat : Int))) {q : Nat} (hq : q < l.length) (c : UInt8) : ∀ j (hj : j < (l.set q c).length), (C.setIfInBounds q (.int .u8 (c.toNat : Int)))[j]? = some (.int .u8 ((l.set q c)[j].toNat : Int)) := by
 intro k hk
 have hk' : k < l.length := by simpa using hk
 by_cases e : k = q
 ·subst e
  have := (Array.getElem?_eq_some_iff.1 (h k hk')).1
  simp [this]
 ·rw [Array.getElem?_setIfInBounds_ne (by omega), List.getElem_set_ne (by omega)]
  exact h k hk'
theorem hv_bytes (l : List UInt8) : bytesOf (l.map fun b => (b.toNat : Int)) = ⟨l.toArray⟩ := by
 unfold bytesOf
 rw [List.map_map]
 have : ∀ b ∈ l, ((fun n : Int => UInt8.ofNat n.toNat) ∘ fun b : UInt8 => (b.toNat : Int)) b = id b := fun b _ => by simp
 rw [List.map_congr_left this, List.map_id]
theorem hv_row {w : World} {B cap : Nat} {C : Array Value} {ty : TypeId} {fz : Nat × Nat} {l : List UInt8} (hC : w.heap[B]? = some (.cells C ty fz)) (h : ∀ q (h : q < l.length), C[q]? = some (.int .u8 (l[q].toNat : Int))) (h1 : l.length ≤ cap) (h2 : cap ≤ maxLen) (ρ : Nat → Value) :
  RowIs w (.slice (some ⟨B, 0, none⟩) l.length cap) (l.map fun b => (b.toNat : Int)).length K.u8.sz ((l.map fun b => (b.toNat : Int)).flatMap fun a => denL ρ (K.enc .u8 a)) := by
 have e : ((l.map fun b => (b.toNat : Int)).flatMap fun a => denL ρ (K.enc .u8 a)) = l.map fun b => Value.int .u8 (b.toNat : Int) := by
  have := den_u8 ρ (l.map fun b => (b.toNat : Int))
  exact this.trans (by rw [List.map_map]; rfl)
 rw [e, List.length_map]
 refine ⟨by simp [K.sz], some ⟨B, 0, none⟩, cap, rfl, h1, h2, fun hh => (by cases hh), fun a ha => ?_⟩
 injection ha with ha
 subst ha
 refine ⟨fun _ => (Array.getElem?_eq_some_iff.1 hC).1, fun j u hu => ?_⟩
 have hj : j < l.length := by
  have := (List.getElem?_eq_some_iff.1 hu).1
  simpa using this
 rw [add_zero_addr', Nat.zero_add]
 have hx := h j hj
 rw [List.getElem?_map, List.getElem?_eq_getElem hj] at hu
 simp only [Option.map_some, Option.some.injEq] at hu
 simp only [World.cell?, hC]
 rw [← hu]
 exact hx
noncomputable def halves_env : Env := mkEnv ty fnB [(36, R_AddrOf_con)] []
theorem halves_envOk : EnvOk Tryz.prog halves_env := envOk tyOk fn_ok (callsCons R_AddrOf_ok callsNil) _
def hv_pf (a b c d : SV) : Go.Ma.Obj := .blk [a, b, c, d] 26 true
set_option maxRecDepth 100000 in
set_option maxHeartbeats 4000000 in
theorem halves_walk (p : Pf) (k : Nat) (hk : p.bits = (k : Int)) (s : ByteArray) (w : World) (hG : Glob Tryz.prog w) (hs : s.size ≤ 1024) (hks : k < s.size) (b : Ad) (hA : R_AddrOf_t ⟨(s.data.toList.set k 49).toArray⟩ = some (b, ()))
  (HB : ∀ W, Below w.heap.size w W → Calls Tryz.prog 13 #[.agg #[.bool p.ad.v6, .int .u64 p.ad.hi, .int .u64 p.ad.lo]] W fun e w' => e = .returned (.string s) ∧ Below W.heap.size W w') :
  Calls Tryz.prog 14 #[.agg #[.bool p.ad.v6, .int .u64 p.ad.hi, .int .u64 p.ad.lo, .int .i64 p.bits]] w fun e w' => ∃ ρc r m', e = .returned (den ρc r) ∧ RelM w ρc m' w' ∧ resR [.one (.fl .pfx), .one (.fl .pfx)] r m' = some ((⟨p.ad, p.bits + 1⟩ : Pf), (⟨b, p.bits + 1⟩ : Pf), ()) := by
 have hcv := fun w s => run_bytes_of_string (P := Tryz.prog) w 9 62 5 s Tryz.underlying9 Tryz.underlying62 Tryz.underlying5
 obtain ⟨⟨pv, ph, pl⟩, pb⟩ := p
 simp only at hk HB
 subst hk
 have r0 : RelM w (fun _ => Go.undef) ([] : Mem) w := ⟨Below.refl _ _, fun j o h => by simp at h, fun i j o o' _ h => by simp at h, fun j o h => by simp at h⟩
 have r1 := r0.alloc (cs := [.b pv, .i .u64 ph, .i .u64 pl, .i .i64 k]) (ty := 26) (arr := #[.bool pv, .int .u64 ph, .int .u64 pl, .int .i64 k]) rfl (fun i sv hi ha => by
  rcases i with _ | _ | _ | _ | i <;> simp at hi <;> subst hi <;> exact ⟨rfl, rfl⟩)
 have r2 := r1.alloc (cs := [.b false, .i .u64 0, .i .u64 0, .i .i64 0]) (ty := 26) (arr := #[.bool false, .int .u64 0, .int .u64 0, .int .i64 0]) rfl (fun i sv hi ha => by
  rcases i with _ | _ | _ | _ | i <;> simp at hi <;> subst hi <;> exact ⟨rfl, rfl⟩)
 have r3 := r2.alloc (cs := [.b false, .i .u64 0, .i .u64 0, .i .i64 0]) (ty := 26) (arr := #[.bool false, .int .u64 0, .int .u64 0, .int .i64 0]) rfl (fun i sv hi ha => by
  rcases i with _ | _ | _ | _ | i <;> simp at hi <;> subst hi <;> exact ⟨rfl, rfl⟩)
 have HR : Hid (RelM w (upd (upd (upd (fun _ => Go.undef) 0 (.pointer (some ⟨w.heap.size, 0, none⟩))) 1 (.pointer (some ⟨w.heap.size + 1, 0, none⟩))) 2 (.pointer (some ⟨w.heap.size + 1 + 1, 0, none⟩))) [hv_pf (.b pv) (.i .u64 ph) (.i .u64 pl) (.i .i64 k), hv_pf (.b false) (.i .u64 0) (.i .u64 0) (.i .i64 0), hv_pf (.b false) (.i .u64 0) (.i .u64 0) (.i .i64 0)]
   (((w.alloc (.cells #[.bool pv, .int .u64 ph, .int .u64 pl, .int .i64 k] 26)).alloc (.cells #[.bool false, .int .u64 0, .int .u64 0, .int .i64 0] 26)).alloc (.cells #[.bool false, .int .u64 0, .int .u64 0, .int .i64 0] 26))) := by
  have e1 : (w.alloc (.cells #[.bool pv, .int .u64 ph, .int .u64 pl, .int .i64 k] 26)).heap.size = w.heap.size + 1 := by simp
  have e2 : ((w.alloc (.cells #[.bool pv, .int .u64 ph, .int .u64 pl, .int .i64 k] 26)).alloc (.cells #[.bool false, .int .u64 0, .int .u64 0, .int .i64 0] 26)).heap.size = w.heap.size + 1 + 1 := by simp
  rw [e1, e2] at r3
  exact r3
 have HBx := HB _ ((((Below.refl w.heap.size w).alloc (Nat.le_refl _) (.cells #[.bool pv, .int .u64 ph, .int .u64 pl, .int .i64 k] 26)).alloc (by simp) (.cells #[.bool false, .int .u64 0, .int .u64 0, .int .i64 0] 26)).alloc (by simp; omega) (.cells #[.bool false, .int .u64 0, .int .u64 0, .int .i64 0] 26))
 clear r0 r1 r2 r3 HB
 go_enter Tryz.func14, Tryz.ntmps14
 go_upto_region 2 with (go_at_call 13; refine HBx.mono ?_; rintro e w1 ⟨rfl, hb1⟩)
 have HR1 : Hid _ := HR.out.later hb1
 have hn : w.heap.size + 1 + 1 < w1.heap.size := by have := hb1.size; simp at this; omega
 have hc1 : w1.cell? ⟨w.heap.size, 3, none⟩ = some (.int .i64 k) := by
  obtain ⟨b0, arr, hb0, _, ha0, _, ha1⟩ := HR1.out.obj 0 _ rfl
  have hb0' : Value.pointer (some ⟨w.heap.size, 0, none⟩) = .pointer (some ⟨b0, 0, none⟩) := hb0
  simp only [Value.pointer.injEq, Option.some.injEq, Addr.mk.injEq, and_true] at hb0'
  subst hb0'
  have := ha1 3 (.i .i64 k) rfl rfl
  simp only [World.cell?, ha0]
  exact this
 obtain ⟨B, hB⟩ : ∃ B, B = w1.heap.size := ⟨_, rfl⟩
 obtain ⟨cap, hcap⟩ : ∃ cap, cap = grownCap w1 s.size 0 5 := ⟨_, rfl⟩
 rw [← hB, ← hcap]
 have hcap1 : s.size ≤ cap := by rw [hcap]; exact grownCap_ge _ _ _ _
 have hcap2 : cap ≤ maxLen := by rw [hcap]; exact grownCap_le_maxLen _ _ _ _ (by unfold maxLen; omega)
 obtain ⟨C, hC⟩ : ∃ C, C = bytesRow s cap := ⟨_, rfl⟩
 rw [← hC]
 obtain ⟨bs, hbs⟩ : ∃ bs, bs = s.data.toList := ⟨_, rfl⟩
 have hsn : s.size = bs.length := by rw [hbs]; simp
 have hcells : ∀ q (h : q < bs.length), C[q]? = some (.int .u8 (bs[q].toNat : Int)) := fun q hq => by
  rw [hC, bytesRow, Array.getElem?_append_left (by simp; omega)]
  subst hbs
  simp at hq
  simp [hq]
 have hkb : k < bs.length := by omega
 obtain ⟨wA, hwA⟩ : ∃ wA, wA = (w1.alloc (.cells C 5 (C.size, C.size + 1))).drew := ⟨_, rfl⟩
 rw [← hwA]
 have hAB : Below w1.heap.size w1 wA := by
  have := (Below.refl w1.heap.size w1).alloc (Nat.le_refl _) (.cells C 5 (C.size, C.size + 1))
  rw [hwA]
  exact ⟨this.os, this.tape, this.output, this.size, this.block⟩
 have hABk : wA.heap[B]? = some (.cells C 5 (C.size, C.size + 1)) := by
  rw [hwA, hB]
  exact heap_alloc_new w1 _
 have hcA : wA.cell? ⟨w.heap.size, 3, none⟩ = some (.int .i64 k) := by
  have e := hAB.block w.heap.size (by omega)
  simp only [World.cell?, e] at hc1 ⊢
  exact hc1
 have hcB : wA.cell? ⟨B, k, none⟩ = some (.int .u8 (bs[k].toNat : Int)) := by
  simp only [World.cell?, hABk]
  exact hcells k hkb
 have hfB : wA.frozen? ⟨B, k, none⟩ = false := by
  have := (Array.getElem?_eq_some_iff.1 (hcells k hkb)).1
  simp [World.frozen?, hABk]
  omega
 have hset := setCell_heap wA B k (.int .u8 49) C 5 (C.size, C.size + 1) hABk
 have hBB : Below w1.heap.size w1 (wA.setCell ⟨B, k, none⟩ (.int .u8 49)) := hAB.setCell (p := ⟨B, k, none⟩) (by show w1.heap.size ≤ B; omega) _
 have hlen : (bs.set k 49).length = s.size := by simp [hsn]
 have hcs := hv_cells hcells hkb 49
 have HR2 : Hid (∀ ρ' : Nat → Value, ρ' = upd (upd (upd (upd (fun _ => Go.undef) 0 (.pointer (some ⟨w.heap.size, 0, none⟩))) 1 (.pointer (some ⟨w.heap.size + 1, 0, none⟩))) 2 (.pointer (some ⟨w.heap.size + 1 + 1, 0, none⟩))) 3 (.slice (some ⟨B, 0, none⟩) s.size cap) →
   RelM w ρ' [hv_pf (.b pv) (.i .u64 ph) (.i .u64 pl) (.i .i64 k), hv_pf (.b false) (.i .u64 0) (.i .u64 0) (.i .i64 0), hv_pf (.b false) (.i .u64 0) (.i .u64 0) (.i .i64 0), .row (.ty .u8 ((bs.set k 49).map fun b => (b.toNat : Int))) 5 false] (wA.setCell ⟨B, k, none⟩ (.int .u8 49))) := by
  rintro ρ' rfl
  refine HR1.out.push hBB (o := .row (.ty .u8 ((bs.set k 49).map fun b => (b.toNat : Int))) 5 false) (v := .slice (some ⟨B, 0, none⟩) s.size cap) ?_ rfl (fun b hb => ?_)
  ·have := hv_row (l := bs.set k 49) (cap := cap) hset hcs (by omega) hcap2 (fun _ => Go.undef)
   rw [hlen] at this
   exact row_obj _ this
  ·have hb := (blocks_one (fun vs h => by cases h)).1 (blocks_sub hb)
   simp only [valBlock, Option.some.injEq] at hb
   omega
 obtain ⟨n, hnn⟩ : ∃ n, n = s.size := ⟨_, rfl⟩
 rw [← hnn] at HR2 hks ⊢
 have hkI : (k : Int) < (n : Int) := by omega
 have hix : (Instr.indexAt 62 (.slice (some ⟨B, 0, none⟩) n cap) (.int .i64 (k : Int))).run Tryz.prog wA = .ok (.pointer (some ⟨B, k, none⟩)) wA := by
  have hb2 : (0 : Int) ≤ (k : Int) ∧ (k : Int) < (n : Int) := by omega
  simp only [Instr.indexAt, asIntOf, Sem.run_bind, Sem.run_pure, Result.andThen_ok, run_underlying Tryz.underlying62, elemPtr]
  rw [if_pos hb2]
  simp [Tryz.sizeOf5, Addr.add]
  exact fun h => h.symm
 have HG : Hid (Glob Tryz.prog w) := hG
 clear HR HR1 HBx hcv hb1 hc1 hAB hABk hset hBB hlen hcs hcells hcap hcap1 hcap2 hC hB hwA hG
 go_wp2
 rename_i K2 hK2
 simp [Oper.wp, Oper.upon, execOp, Act.eval, hix, Result.andThen_ok]
 refine hK2 _ _ ?_
 simp only [Act.put, List.setIfInBounds_toArray, List.set_cons_succ, List.set_cons_zero]
 go_wp2
 rename_i K3 hK3
 have HR3 := HR2.out _ rfl
 refine (ix_ok (x := ((⟨⟨pv, ph, pl⟩, (k : Int) + 1⟩ : Pf), (⟨b, (k : Int) + 1⟩ : Pf), ())) (base := 4) ⟨halves_envOk, HG.out⟩ _ ⟨[.any, .ptr 0 0, .ptr 1 0, .ptr 2 0, .row 3] ++ List.replicate 21 .any, [hv_pf (.b pv) (.i .u64 ph) (.i .u64 pl) (.i .i64 k), hv_pf (.b false) (.i .u64 0) (.i .u64 0) (.i .i64 0), hv_pf (.b false) (.i .u64 0) (.i .u64 0) (.i .i64 0), .row (.ty .u8 ((bs.set k 49).map fun b => (b.toNat : Int))) 5 false]⟩
  (fin ty Tryz.f14.results.toList (resR [.one (.fl .pfx), .one (.fl .pfx)])) (fun _ _ => none) (fun _ => none) (loopsOk (l := []) rfl lsNil) ?_).code (Nat.le_refl _) _ _ _ _ ⟨⟨rfl, ?_⟩, HR3, rfl⟩ (fun ρ' s' a' w' hag hle hs' hk => hK3 _ _ (wp_ret ⟨hs'.d, fin_out tyOk hs' hk⟩)) (fun i _ _ _ _ _ _ _ h => by cases h) (fun _ _ _ _ _ _ _ h => by cases h)
 ·refine Eq.trans (b := req (i64ok ((k : Int) + 1)) (req (i64ok ((k : Int) + 1)) ((R_AddrOf_t (bytesOf ((bs.set k 49).map fun b => (b.toNat : Int)))).bind fun z => some ((⟨⟨pv, ph, pl⟩, (k : Int) + 1⟩ : Pf), (⟨z.1, (k : Int) + 1⟩ : Pf), ())))) ?_ ?_
  ·kernel_rfl
  ·have hi : i64ok ((k : Int) + 1) = true := i64ok_iff.2 ⟨by omega, by omega⟩
   rw [hi, hv_bytes, hbs, hA]
   rfl
 ·intro i sv hi hs
  rcases i with _ | _ | _ | _ | _ | i
  ·cases hi; cases hs
  ·cases hi; exact ⟨rfl, rfl⟩
  ·cases hi; exact ⟨rfl, rfl⟩
  ·cases hi; exact ⟨rfl, rfl⟩
  ·cases hi; exact ⟨rfl, rfl⟩
  ·have hi : (List.replicate 21 SV.any)[i]? = some sv := hi
   have := List.mem_of_getElem? hi
   simp only [List.mem_replicate] at this
   rw [this.2] at hs
   cases hs
theorem hv_seg {k : K} (w : World) (ρ : Nat → Value) (a : k.T) (v : Value) (n : Nat) (h : ∀ ρ, v = den ρ (flV k a)) : ArgsOk w ρ n [v] [flV k a] [] [] :=
 ⟨rfl, fun ρ' _ => by simp only [denL, h ρ'], fun _ _ _ i o v h => by simp at h, by simp only [ltL, flV_lt, Bool.and_self], fun o h => by cases h⟩
noncomputable def R_HalvesOf_con : Con := con [.one (.fl .pfx)] [.one (.fl .pfx), .one (.fl .pfx)] (fun x => R_HalvesOf_t x.1)
theorem halves_main (p : Pf) (y : Pf × Pf × Unit) (hx : R_HalvesOf_t p = some y) (ρ : Nat → Value) (us vals : List Value) (w : World) (hG : Glob Tryz.prog w)
  (hu : ArgsOk w ρ 0 vals (encA false [.one (.fl .pfx)] (p, ()) 0).1 (encA false [.one (.fl .pfx)] (p, ()) 0).2 us) :
  Calls Tryz.prog 14 vals.toArray w fun e w' => ∃ ρc r m', e = .returned (den ρc r) ∧ RelM w ρc m' w' ∧ resR [.one (.fl .pfx), .one (.fl .pfx)] r m' = some y := by
 have hg := gives_nameOf us
 have hdenv := hu.den _ hg
 have hvals : vals = [.agg #[.bool p.ad.v6, .int .u64 p.ad.hi, .int .u64 p.ad.lo, .int .i64 p.bits]] := hdenv.symm
 subst hvals
 unfold R_HalvesOf_t at hx
 obtain ⟨y1, h1, hx⟩ := Option.bind_eq_some_iff.1 hx
 obtain ⟨s, us1⟩ := y1
 obtain ⟨hq1, hx⟩ := req_some hx
 obtain ⟨hq2, hx⟩ := req_some hx
 obtain ⟨hq3, hx⟩ := req_some hx
 obtain ⟨z, hz, hx⟩ := Option.bind_eq_some_iff.1 hx
 have hq1 : s.size ≤ 1024 := Nat.le_of_ble_eq_true hq1
 rw [Bool.and_eq_true, decide_eq_true_iff, decide_eq_true_iff] at hq2
 rw [Nat.blt_eq] at hq3
 injection hx with hx
 subst hx
 refine halves_walk p p.bits.toNat (by omega) s w hG hq1 hq3 z.1 (by obtain ⟨z1, z2⟩ := z; exact hz) (fun W hW => ?_)
 have ha := hv_seg (k := .addr) W (fun _ => Go.undef) p.ad (.agg #[.bool p.ad.v6, .int .u64 p.ad.hi, .int .u64 p.ad.lo]) 0 (fun _ => rfl)
 refine (flat_calls (hG.mono hW) R_Bits_ok (x := (p.ad, ())) h1 rfl rfl ha).mono ?_
 rintro e w' ⟨⟨ρ', rfl⟩, hb'⟩
 exact ⟨rfl, hb'⟩
theorem R_HalvesOf_ok : TrOk Tryz.prog 14 R_HalvesOf_con := con_of _ _ _ fun x y hx ρ us vals w hG hu => halves_main x.1 y hx ρ us vals w hG hu
end Go.Proofs.YthoipikkaelohaaGreatDoor
namespace Go.Proofs
open Go.Shelf
def Tryz.lays156_ren : Go.Shelf.Ren := ⟨fun | 156 => 57 | 165 => 71 | 166 => 72 | 169 => 73 | 240 => 94 | 241 => 95 | 276 => 108 | 277 => 109 | n => n, fun | 31 => 64 | 9 => 9 | 3 => 3 | 4 => 4 | 0 => 0 | 20 => 20 | 72 => 98 | 76 => 75 | 70 => 96 | 37 => 62 | 75 => 74 | 127 => 122 | 164 => 138 | 5 => 5 | 80 => 100 | n => n, fun | n => n⟩
theorem Tryz.lays156 : Go.Proofs.Lays.n156 Tryz.prog Tryz.lays156_ren := {
 mixed := by kernel_rfl
 f156 := Tryz.func57.trans (congrArg some (by kernel_rfl))
 f165 := Tryz.func71.trans (congrArg some (by kernel_rfl))
 f166 := Tryz.func72.trans (congrArg some (by kernel_rfl))
 f169 := Tryz.func73.trans (congrArg some (by kernel_rfl))
 f240 := Tryz.func94.trans (congrArg some (by kernel_rfl))
 f241 := Tryz.func95.trans (congrArg some (by kernel_rfl))
 f276 := Tryz.func108.trans (congrArg some (by kernel_rfl))
 f277 := Tryz.func109.trans (congrArg some (by kernel_rfl))
 t0 := Tryz.underlying0
 a0 := Tryz.isAgg0
 z0 := Tryz.sizeOf0
 v0 := Tryz.zeroValue0
 t3 := Tryz.underlying3
 a3 := Tryz.isAgg3
 z3 := Tryz.sizeOf3
 v3 := Tryz.zeroValue3
 t4 := Tryz.underlying4
 a4 := Tryz.isAgg4
 z4 := Tryz.sizeOf4
 v4 := Tryz.zeroValue4
 t9 := Tryz.underlying9
 a9 := Tryz.isAgg9
 z9 := Tryz.sizeOf9
 v9 := Tryz.zeroValue9
 t20 := Tryz.underlying20
 a20 := Tryz.isAgg20
 z20 := Tryz.sizeOf20
 v20 := Tryz.zeroValue20
 t31 := Tryz.underlying64
 a31 := Tryz.isAgg64
 z31 := Tryz.sizeOf64
 v31 := Tryz.zeroValue64
 t37 := Tryz.underlying62
 a37 := Tryz.isAgg62
 z37 := Tryz.sizeOf62
 v37 := Tryz.zeroValue62
 t70 := Tryz.underlying96
 a70 := Tryz.isAgg96
 z70 := Tryz.sizeOf96
 v70 := Tryz.zeroValue96
 t72 := Tryz.underlying98
 a72 := Tryz.isAgg98
 z72 := Tryz.sizeOf98
 v72 := Tryz.zeroValue98
 t75 := Tryz.underlying74
 a75 := Tryz.isAgg74
 z75 := Tryz.sizeOf74
 v75 := Tryz.zeroValue74
 t76 := Tryz.underlying75
 a76 := Tryz.isAgg75
 z76 := Tryz.sizeOf75
 v76 := Tryz.zeroValue75
 t127 := Tryz.underlying122
 a127 := Tryz.isAgg122
 z127 := Tryz.sizeOf122
 v127 := Tryz.zeroValue122
 t164 := Tryz.underlying138
 a164 := Tryz.isAgg138
 z164 := Tryz.sizeOf138
 v164 := Tryz.zeroValue138 }
theorem Tryz.Builder_Extra_156 : Builder.Extra Tryz.prog Tryz.lays156_ren := {
 sizeBuilder := by kernel_rfl
 liesBuilder := by kernel_rfl
 t5 := Tryz.underlying5
 a5 := Tryz.isAgg5
 z5 := Tryz.sizeOf5
 v5 := Tryz.zeroValue5
 infoByte := by kernel_rfl
 cellsByte := by kernel_rfl
 sizeByte := by kernel_rfl
 neB5 := by decide }
open Go.RowKit in
theorem Tryz.strings_Join_none (a : Option Addr) (c : Nat) (sep : ByteArray) (w : World) :
  Calls Tryz.prog 57 #[.slice a 0 c, .string sep] w fun e w' => e = .returned (.string ⟨#[]⟩) ∧ w' = w := Any.strings_Join_none Tryz.lays156 Tryz.Builder_Extra_156 a c sep w
open Go.RowKit in
theorem Tryz.strings_Join (bk o c : Nat) (xs : List ByteArray) (sep : ByteArray) (w : World) (hcells : ∀ (j : Nat) x, xs[j]? = some x → w.cell? ⟨bk, o + j, none⟩ = some (.string x)) (hbk : bk < w.heap.size) (hN : xs.length ≤ 140737488355328) (hcap : xs.length ≤ c) (hlen : (Lib.join (xs.map (·.data.toList)) sep.data.toList).length ≤ 140737488355328) :
  Calls Tryz.prog 57 #[.slice (some ⟨bk, o, none⟩) xs.length c, .string sep] w fun e w' => e = .returned (.string ⟨(Lib.join (xs.map (·.data.toList)) sep.data.toList).toArray⟩) ∧ Below w.heap.size w w' := Any.strings_Join Tryz.lays156 Tryz.Builder_Extra_156 bk o c xs sep w hcells hbk hN hcap hlen
def Tryz.lays172_ren : Go.Shelf.Ren := ⟨fun | 172 => 49 | 244 => 66 | 245 => 67 | 247 => 85 | 279 => 86 | 280 => 87 | 281 => 88 | 282 => 89 | 287 => 100 | 316 => 101 | 171 => 46 | 205 => 102 | 321 => 112 | 322 => 113 | 243 => 60 | 246 => 76 | 283 => 90 | 284 => 91 | 285 => 92 | 286 => 93 | 129 => 104 | 317 => 103 | 318 => 105 | 319 => 106 | 320 => 107 | 337 => 114 | 338 => 115 | n => n, fun | 9 => 9 | 3 => 3 | 75 => 74 | 76 => 75 | 4 => 4 | 5 => 5 | 167 => 111 | 37 => 62 | 0 => 0 | 85 => 112 | 2 => 2 | 168 => 114 | 53 => 22 | 175 => 127 | 46 => 106 | 210 => 131 | 127 => 122 | 145 => 146 | 143 => 144 | 21 => 21 | 171 => 117 | 173 => 120 | 212 => 134 | 51 => 123 | 20 => 20 | 213 => 135 | 232 => 150 | 233 => 151 | 80 => 100 | n => n, fun | 15 => 1 | 16 => 2 | 17 => 3 | 18 => 4 | 19 => 5 | n => n⟩
theorem Tryz.lays172 : Go.Proofs.Lays.n172 Tryz.prog Tryz.lays172_ren := {
 mixed := by kernel_rfl
 f129 := Tryz.func104.trans (congrArg some (by kernel_rfl))
 f171 := Tryz.func46.trans (congrArg some (by kernel_rfl))
 f172 := Tryz.func49.trans (congrArg some (by kernel_rfl))
 f205 := Tryz.func102.trans (congrArg some (by kernel_rfl))
 f243 := Tryz.func60.trans (congrArg some (by kernel_rfl))
 f244 := Tryz.func66.trans (congrArg some (by kernel_rfl))
 f245 := Tryz.func67.trans (congrArg some (by kernel_rfl))
 f246 := Tryz.func76.trans (congrArg some (by kernel_rfl))
 f247 := Tryz.func85.trans (congrArg some (by kernel_rfl))
 f279 := Tryz.func86.trans (congrArg some (by kernel_rfl))
 f280 := Tryz.func87.trans (congrArg some (by kernel_rfl))
 f281 := Tryz.func88.trans (congrArg some (by kernel_rfl))
 f282 := Tryz.func89.trans (congrArg some (by kernel_rfl))
 f283 := Tryz.func90.trans (congrArg some (by kernel_rfl))
 f284 := Tryz.func91.trans (congrArg some (by kernel_rfl))
 f285 := Tryz.func92.trans (congrArg some (by kernel_rfl))
 f286 := Tryz.func93.trans (congrArg some (by kernel_rfl))
 f287 := Tryz.func100.trans (congrArg some (by kernel_rfl))
 f316 := Tryz.func101.trans (congrArg some (by kernel_rfl))
 f317 := Tryz.func103.trans (congrArg some (by kernel_rfl))
 f318 := Tryz.func105.trans (congrArg some (by kernel_rfl))
 f319 := Tryz.func106.trans (congrArg some (by kernel_rfl))
 f320 := Tryz.func107.trans (congrArg some (by kernel_rfl))
 f321 := Tryz.func112.trans (congrArg some (by kernel_rfl))
 f322 := Tryz.func113.trans (congrArg some (by kernel_rfl))
 f337 := Tryz.func114.trans (congrArg some (by kernel_rfl))
 f338 := Tryz.func115.trans (congrArg some (by kernel_rfl))
 t0 := Tryz.underlying0
 a0 := Tryz.isAgg0
 z0 := Tryz.sizeOf0
 v0 := Tryz.zeroValue0
 t2 := Tryz.underlying2
 a2 := Tryz.isAgg2
 z2 := Tryz.sizeOf2
 v2 := Tryz.zeroValue2
 t3 := Tryz.underlying3
 a3 := Tryz.isAgg3
 z3 := Tryz.sizeOf3
 v3 := Tryz.zeroValue3
 t4 := Tryz.underlying4
 a4 := Tryz.isAgg4
 z4 := Tryz.sizeOf4
 v4 := Tryz.zeroValue4
 t5 := Tryz.underlying5
 a5 := Tryz.isAgg5
 z5 := Tryz.sizeOf5
 v5 := Tryz.zeroValue5
 t9 := Tryz.underlying9
 a9 := Tryz.isAgg9
 z9 := Tryz.sizeOf9
 v9 := Tryz.zeroValue9
 t20 := Tryz.underlying20
 a20 := Tryz.isAgg20
 z20 := Tryz.sizeOf20
 v20 := Tryz.zeroValue20
 t21 := Tryz.underlying21
 a21 := Tryz.isAgg21
 z21 := Tryz.sizeOf21
 v21 := Tryz.zeroValue21
 t37 := Tryz.underlying62
 a37 := Tryz.isAgg62
 z37 := Tryz.sizeOf62
 v37 := Tryz.zeroValue62
 t46 := Tryz.underlying106
 a46 := Tryz.isAgg106
 z46 := Tryz.sizeOf106
 v46 := Tryz.zeroValue106
 t51 := Tryz.underlying123
 a51 := Tryz.isAgg123
 z51 := Tryz.sizeOf123
 v51 := Tryz.zeroValue123
 t53 := Tryz.underlying22
 a53 := Tryz.isAgg22
 z53 := Tryz.sizeOf22
 v53 := Tryz.zeroValue22
 t75 := Tryz.underlying74
 a75 := Tryz.isAgg74
 z75 := Tryz.sizeOf74
 v75 := Tryz.zeroValue74
 t76 := Tryz.underlying75
 a76 := Tryz.isAgg75
 z76 := Tryz.sizeOf75
 v76 := Tryz.zeroValue75
 t85 := Tryz.underlying112
 a85 := Tryz.isAgg112
 z85 := Tryz.sizeOf112
 v85 := Tryz.zeroValue112
 t127 := Tryz.underlying122
 a127 := Tryz.isAgg122
 z127 := Tryz.sizeOf122
 v127 := Tryz.zeroValue122
 t143 := Tryz.underlying144
 a143 := Tryz.isAgg144
 z143 := Tryz.sizeOf144
 v143 := Tryz.zeroValue144
 t145 := Tryz.underlying146
 a145 := Tryz.isAgg146
 z145 := Tryz.sizeOf146
 v145 := Tryz.zeroValue146
 t167 := Tryz.underlying111
 a167 := Tryz.isAgg111
 z167 := Tryz.sizeOf111
 v167 := Tryz.zeroValue111
 t168 := Tryz.underlying114
 a168 := Tryz.isAgg114
 z168 := Tryz.sizeOf114
 v168 := Tryz.zeroValue114
 t171 := Tryz.underlying117
 a171 := Tryz.isAgg117
 z171 := Tryz.sizeOf117
 v171 := Tryz.zeroValue117
 t173 := Tryz.underlying120
 a173 := Tryz.isAgg120
 z173 := Tryz.sizeOf120
 v173 := Tryz.zeroValue120
 t175 := Tryz.underlying127
 a175 := Tryz.isAgg127
 z175 := Tryz.sizeOf127
 v175 := Tryz.zeroValue127
 t210 := Tryz.underlying131
 a210 := Tryz.isAgg131
 z210 := Tryz.sizeOf131
 v210 := Tryz.zeroValue131
 t212 := Tryz.underlying134
 a212 := Tryz.isAgg134
 z212 := Tryz.sizeOf134
 v212 := Tryz.zeroValue134
 t213 := Tryz.underlying135
 a213 := Tryz.isAgg135
 z213 := Tryz.sizeOf135
 t232 := Tryz.underlying150
 a232 := Tryz.isAgg150
 z232 := Tryz.sizeOf150
 v232 := Tryz.zeroValue150
 t233 := Tryz.underlying151
 a233 := Tryz.isAgg151
 z233 := Tryz.sizeOf151
 v233 := Tryz.zeroValue151
 g15 := by kernel_rfl
 g16 := by kernel_rfl
 g17 := by kernel_rfl
 g18 := by kernel_rfl
 g19 := by kernel_rfl }
open Go.RowKit in
theorem Tryz.strconv_Atoi (s : ByteArray) (n : Int) (hl : s.size ≤ 18) (h : Lib.atoi s.data.toList = some n) (w : World) :
  Calls Tryz.prog 49 #[.string s] w fun e w' => e = .returned (.tuple #[.int .i64 n, .nilIface]) ∧ ∃ t, w' = Lib.bytesWorld w 5 t := Any.strconv_Atoi Tryz.lays172 s n hl h w
def Tryz.lays283_ren : Go.Shelf.Ren := ⟨fun | 283 => 90 | n => n, fun | 3 => 3 | 9 => 9 | 4 => 4 | n => n, fun | n => n⟩
theorem Tryz.lays283 : Go.Proofs.Lays.n283 Tryz.prog Tryz.lays283_ren := {
 mixed := by kernel_rfl
 f283 := Tryz.func90.trans (congrArg some (by kernel_rfl))
 t3 := Tryz.underlying3
 a3 := Tryz.isAgg3
 z3 := Tryz.sizeOf3
 v3 := Tryz.zeroValue3
 t4 := Tryz.underlying4
 a4 := Tryz.isAgg4
 z4 := Tryz.sizeOf4
 v4 := Tryz.zeroValue4
 t9 := Tryz.underlying9
 a9 := Tryz.isAgg9
 z9 := Tryz.sizeOf9
 v9 := Tryz.zeroValue9 }
open Go.Lib in
theorem Tryz.internal_strconv_small (i : Nat) (h : i < 100) (w : World) :
  Calls Tryz.prog 90 #[.int .i64 i] w fun e w' => e = .returned (.string ⟨(Lib.decDigits i).toArray⟩) ∧ w' = w := Any.internal_strconv_small Tryz.lays283 i h w
def Tryz.laysM284_ren : Go.Shelf.Ren := ⟨fun | 284 => 91 | 129 => 104 | 317 => 103 | 318 => 105 | n => n, fun | 53 => 22 | 3 => 3 | 212 => 134 | 0 => 0 | 4 => 4 | 46 => 106 | 5 => 5 | 9 => 9 | n => n, fun | 17 => 3 | n => n⟩
theorem Tryz.laysM284 : Go.Proofs.LaysM.n284 Tryz.prog Tryz.laysM284_ren := {
 mixed := by kernel_rfl
 f129 := Tryz.func104.trans (congrArg some (by kernel_rfl))
 f284 := Tryz.func91.trans (congrArg some (by kernel_rfl))
 f317 := Tryz.func103.trans (congrArg some (by kernel_rfl))
 f318 := Tryz.func105.trans (congrArg some (by kernel_rfl))
 t0 := Tryz.underlying0
 a0 := Tryz.isAgg0
 z0 := Tryz.sizeOf0
 v0 := Tryz.zeroValue0
 t3 := Tryz.underlying3
 a3 := Tryz.isAgg3
 z3 := Tryz.sizeOf3
 v3 := Tryz.zeroValue3
 t4 := Tryz.underlying4
 a4 := Tryz.isAgg4
 z4 := Tryz.sizeOf4
 v4 := Tryz.zeroValue4
 t5 := Tryz.underlying5
 a5 := Tryz.isAgg5
 z5 := Tryz.sizeOf5
 v5 := Tryz.zeroValue5
 t9 := Tryz.underlying9
 a9 := Tryz.isAgg9
 z9 := Tryz.sizeOf9
 v9 := Tryz.zeroValue9
 t46 := Tryz.underlying106
 a46 := Tryz.isAgg106
 z46 := Tryz.sizeOf106
 v46 := Tryz.zeroValue106
 t53 := Tryz.underlying22
 a53 := Tryz.isAgg22
 z53 := Tryz.sizeOf22
 v53 := Tryz.zeroValue22
 t212 := Tryz.underlying134
 a212 := Tryz.isAgg134
 z212 := Tryz.sizeOf134
 v212 := Tryz.zeroValue134
 g17 := by kernel_rfl
 i0 := by kernel_rfl
 i3 := by kernel_rfl
 i4 := by kernel_rfl
 i5 := by kernel_rfl
 i9 := by kernel_rfl
 i46 := by kernel_rfl
 i53 := by kernel_rfl
 i212 := by kernel_rfl
 m17 := by kernel_rfl }
open Go.Lib in
theorem Tryz.internal_strconv_numDigits (u : Nat) (h1 : 1 ≤ u) (h2 : u < 18446744073709551616) (w : World) (htab : Lib.TabIs Tryz.prog w "internal/strconv.uint64pow10" .u64 Lib.pow10Tab) :
  Calls Tryz.prog 91 #[.int .u64 u] w fun e w' => e = .returned (.int .i64 (Lib.nDigits u)) ∧ w' = w := Any.internal_strconv_numDigits Tryz.laysM284 u h1 h2 w htab
def Tryz.lays285_ren : Go.Shelf.Ren := ⟨fun | 285 => 92 | n => n, fun | 37 => 62 | 53 => 22 | 3 => 3 | 4 => 4 | 51 => 123 | 9 => 9 | 5 => 5 | 0 => 0 | n => n, fun | n => n⟩
theorem Tryz.lays285 : Go.Proofs.Lays.n285 Tryz.prog Tryz.lays285_ren := {
 mixed := by kernel_rfl
 f285 := Tryz.func92.trans (congrArg some (by kernel_rfl))
 t0 := Tryz.underlying0
 a0 := Tryz.isAgg0
 z0 := Tryz.sizeOf0
 v0 := Tryz.zeroValue0
 t3 := Tryz.underlying3
 a3 := Tryz.isAgg3
 z3 := Tryz.sizeOf3
 v3 := Tryz.zeroValue3
 t4 := Tryz.underlying4
 a4 := Tryz.isAgg4
 z4 := Tryz.sizeOf4
 v4 := Tryz.zeroValue4
 t5 := Tryz.underlying5
 a5 := Tryz.isAgg5
 z5 := Tryz.sizeOf5
 v5 := Tryz.zeroValue5
 t9 := Tryz.underlying9
 a9 := Tryz.isAgg9
 z9 := Tryz.sizeOf9
 v9 := Tryz.zeroValue9
 t37 := Tryz.underlying62
 a37 := Tryz.isAgg62
 z37 := Tryz.sizeOf62
 v37 := Tryz.zeroValue62
 t51 := Tryz.underlying123
 a51 := Tryz.isAgg123
 z51 := Tryz.sizeOf123
 v51 := Tryz.zeroValue123
 t53 := Tryz.underlying22
 a53 := Tryz.isAgg22
 z53 := Tryz.sizeOf22
 v53 := Tryz.zeroValue22 }
open Go.RowKit Go.Sort Go.Lib in
theorem Tryz.internal_strconv_formatBase10 (blk off cap : Nat) (u : Nat) (d : Array UInt8) (w : World) (hH : Holds (fun (b : UInt8) => Value.int .u8 (b.toNat : Int)) w blk off d) (hu : u < 10 ^ d.size) (hu64 : u < 18446744073709551616) (hsz : d.size < 4611686018427387904) :
  Calls Tryz.prog 92 #[.slice (some ⟨blk, off, none⟩) d.size cap, .int .u64 u] w fun e w' =>
   e = .returned (.tuple #[]) ∧ ∃ (n v' : Nat) (dk : Array UInt8), w' = (putRow (fun (b : UInt8) => Value.int .u8 (b.toNat : Int)) w blk off dk).drewN n ∧ FmtInv d.size u 0 v' dk := Any.internal_strconv_formatBase10 Tryz.lays285 blk off cap u d w hH hu hu64 hsz
def Tryz.laysM171_ren : Go.Shelf.Ren := ⟨fun | 171 => 46 | 243 => 60 | 246 => 76 | 283 => 90 | 284 => 91 | 285 => 92 | 286 => 93 | 129 => 104 | 317 => 103 | 318 => 105 | 319 => 106 | 320 => 107 | 337 => 114 | 338 => 115 | n => n, fun | 3 => 3 | 9 => 9 | 2 => 2 | 4 => 4 | 171 => 117 | 0 => 0 | 53 => 22 | 37 => 62 | 5 => 5 | 173 => 120 | 212 => 134 | 51 => 123 | 20 => 20 | 213 => 135 | 46 => 106 | 232 => 150 | 233 => 151 | n => n, fun | 17 => 3 | 18 => 4 | 19 => 5 | n => n⟩
theorem Tryz.laysM171 : Go.Proofs.LaysM.n171 Tryz.prog Tryz.laysM171_ren := {
 mixed := by kernel_rfl
 f129 := Tryz.func104.trans (congrArg some (by kernel_rfl))
 f171 := Tryz.func46.trans (congrArg some (by kernel_rfl))
 f243 := Tryz.func60.trans (congrArg some (by kernel_rfl))
 f246 := Tryz.func76.trans (congrArg some (by kernel_rfl))
 f283 := Tryz.func90.trans (congrArg some (by kernel_rfl))
 f284 := Tryz.func91.trans (congrArg some (by kernel_rfl))
 f285 := Tryz.func92.trans (congrArg some (by kernel_rfl))
 f286 := Tryz.func93.trans (congrArg some (by kernel_rfl))
 f317 := Tryz.func103.trans (congrArg some (by kernel_rfl))
 f318 := Tryz.func105.trans (congrArg some (by kernel_rfl))
 f319 := Tryz.func106.trans (congrArg some (by kernel_rfl))
 f320 := Tryz.func107.trans (congrArg some (by kernel_rfl))
 f337 := Tryz.func114.trans (congrArg some (by kernel_rfl))
 f338 := Tryz.func115.trans (congrArg some (by kernel_rfl))
 t0 := Tryz.underlying0
 a0 := Tryz.isAgg0
 z0 := Tryz.sizeOf0
 v0 := Tryz.zeroValue0
 t2 := Tryz.underlying2
 a2 := Tryz.isAgg2
 z2 := Tryz.sizeOf2
 v2 := Tryz.zeroValue2
 t3 := Tryz.underlying3
 a3 := Tryz.isAgg3
 z3 := Tryz.sizeOf3
 v3 := Tryz.zeroValue3
 t4 := Tryz.underlying4
 a4 := Tryz.isAgg4
 z4 := Tryz.sizeOf4
 v4 := Tryz.zeroValue4
 t5 := Tryz.underlying5
 a5 := Tryz.isAgg5
 z5 := Tryz.sizeOf5
 v5 := Tryz.zeroValue5
 t9 := Tryz.underlying9
 a9 := Tryz.isAgg9
 z9 := Tryz.sizeOf9
 v9 := Tryz.zeroValue9
 t20 := Tryz.underlying20
 a20 := Tryz.isAgg20
 z20 := Tryz.sizeOf20
 v20 := Tryz.zeroValue20
 t37 := Tryz.underlying62
 a37 := Tryz.isAgg62
 z37 := Tryz.sizeOf62
 v37 := Tryz.zeroValue62
 t46 := Tryz.underlying106
 a46 := Tryz.isAgg106
 z46 := Tryz.sizeOf106
 v46 := Tryz.zeroValue106
 t51 := Tryz.underlying123
 a51 := Tryz.isAgg123
 z51 := Tryz.sizeOf123
 v51 := Tryz.zeroValue123
 t53 := Tryz.underlying22
 a53 := Tryz.isAgg22
 z53 := Tryz.sizeOf22
 v53 := Tryz.zeroValue22
 t171 := Tryz.underlying117
 a171 := Tryz.isAgg117
 z171 := Tryz.sizeOf117
 v171 := Tryz.zeroValue117
 t173 := Tryz.underlying120
 a173 := Tryz.isAgg120
 z173 := Tryz.sizeOf120
 v173 := Tryz.zeroValue120
 t212 := Tryz.underlying134
 a212 := Tryz.isAgg134
 z212 := Tryz.sizeOf134
 v212 := Tryz.zeroValue134
 t213 := Tryz.underlying135
 a213 := Tryz.isAgg135
 z213 := Tryz.sizeOf135
 t232 := Tryz.underlying150
 a232 := Tryz.isAgg150
 z232 := Tryz.sizeOf150
 v232 := Tryz.zeroValue150
 t233 := Tryz.underlying151
 a233 := Tryz.isAgg151
 z233 := Tryz.sizeOf151
 v233 := Tryz.zeroValue151
 g17 := by kernel_rfl
 g18 := by kernel_rfl
 g19 := by kernel_rfl
 i0 := by kernel_rfl
 i2 := by kernel_rfl
 i3 := by kernel_rfl
 i4 := by kernel_rfl
 i5 := by kernel_rfl
 i9 := by kernel_rfl
 i20 := by kernel_rfl
 i37 := by kernel_rfl
 i46 := by kernel_rfl
 i51 := by kernel_rfl
 i53 := by kernel_rfl
 i171 := by kernel_rfl
 i173 := by kernel_rfl
 i212 := by kernel_rfl
 i232 := by kernel_rfl
 i233 := by kernel_rfl
 m17 := by kernel_rfl
 m18 := by kernel_rfl
 m19 := by kernel_rfl }
open Go.RowKit Go.Sort Go.Lib in
theorem Tryz.strconv_Itoa (n : Int) (h0 : -9223372036854775808 ≤ n) (h1 : n ≤ 9223372036854775807) (w : World) (htab : Lib.TabIs Tryz.prog w "internal/strconv.uint64pow10" .u64 Lib.pow10Tab) :
  Calls Tryz.prog 46 #[.int .i64 n] w fun e w' => e = .returned (.string ⟨(Lib.itoa n).toArray⟩) ∧ ∃ k os, w' = grow (w.drewN k) os := Any.strconv_Itoa Tryz.laysM171 n h0 h1 w htab
def Tryz.laysC172_ren : Go.Shelf.Ren := ⟨fun | 172 => 49 | 244 => 66 | 245 => 67 | 247 => 85 | 279 => 86 | 280 => 87 | 281 => 88 | 282 => 89 | 287 => 100 | 316 => 101 | 171 => 46 | 205 => 102 | 321 => 112 | 322 => 113 | 243 => 60 | 246 => 76 | 283 => 90 | 284 => 91 | 285 => 92 | 286 => 93 | 129 => 104 | 317 => 103 | 318 => 105 | 319 => 106 | 320 => 107 | 337 => 114 | 338 => 115 | n => n, fun | 9 => 9 | 3 => 3 | 75 => 74 | 76 => 75 | 4 => 4 | 5 => 5 | 167 => 111 | 37 => 62 | 0 => 0 | 85 => 112 | 2 => 2 | 168 => 114 | 53 => 22 | 175 => 127 | 46 => 106 | 210 => 131 | 127 => 122 | 145 => 146 | 143 => 144 | 21 => 21 | 171 => 117 | 173 => 120 | 212 => 134 | 51 => 123 | 20 => 20 | 213 => 135 | 232 => 150 | 233 => 151 | 80 => 100 | n => n, fun | 15 => 1 | 16 => 2 | 17 => 3 | 18 => 4 | 19 => 5 | n => n⟩
theorem Tryz.laysC172 : Go.Proofs.LaysC.n172 Tryz.prog Tryz.laysC172_ren := {
 mixed := by kernel_rfl
 f129 := Tryz.func104.trans (congrArg some (by kernel_rfl))
 f171 := Tryz.func46.trans (congrArg some (by kernel_rfl))
 f172 := Tryz.func49.trans (congrArg some (by kernel_rfl))
 f205 := Tryz.func102.trans (congrArg some (by kernel_rfl))
 f243 := Tryz.func60.trans (congrArg some (by kernel_rfl))
 f244 := Tryz.func66.trans (congrArg some (by kernel_rfl))
 f245 := Tryz.func67.trans (congrArg some (by kernel_rfl))
 f246 := Tryz.func76.trans (congrArg some (by kernel_rfl))
 f247 := Tryz.func85.trans (congrArg some (by kernel_rfl))
 f279 := Tryz.func86.trans (congrArg some (by kernel_rfl))
 f280 := Tryz.func87.trans (congrArg some (by kernel_rfl))
 f281 := Tryz.func88.trans (congrArg some (by kernel_rfl))
 f282 := Tryz.func89.trans (congrArg some (by kernel_rfl))
 f283 := Tryz.func90.trans (congrArg some (by kernel_rfl))
 f284 := Tryz.func91.trans (congrArg some (by kernel_rfl))
 f285 := Tryz.func92.trans (congrArg some (by kernel_rfl))
 f286 := Tryz.func93.trans (congrArg some (by kernel_rfl))
 f287 := Tryz.func100.trans (congrArg some (by kernel_rfl))
 f316 := Tryz.func101.trans (congrArg some (by kernel_rfl))
 f317 := Tryz.func103.trans (congrArg some (by kernel_rfl))
 f318 := Tryz.func105.trans (congrArg some (by kernel_rfl))
 f319 := Tryz.func106.trans (congrArg some (by kernel_rfl))
 f320 := Tryz.func107.trans (congrArg some (by kernel_rfl))
 f321 := Tryz.func112.trans (congrArg some (by kernel_rfl))
 f322 := Tryz.func113.trans (congrArg some (by kernel_rfl))
 f337 := Tryz.func114.trans (congrArg some (by kernel_rfl))
 f338 := Tryz.func115.trans (congrArg some (by kernel_rfl))
 t0 := Tryz.underlying0
 a0 := Tryz.isAgg0
 z0 := Tryz.sizeOf0
 v0 := Tryz.zeroValue0
 t2 := Tryz.underlying2
 a2 := Tryz.isAgg2
 z2 := Tryz.sizeOf2
 v2 := Tryz.zeroValue2
 t3 := Tryz.underlying3
 a3 := Tryz.isAgg3
 z3 := Tryz.sizeOf3
 v3 := Tryz.zeroValue3
 t4 := Tryz.underlying4
 a4 := Tryz.isAgg4
 z4 := Tryz.sizeOf4
 v4 := Tryz.zeroValue4
 t5 := Tryz.underlying5
 a5 := Tryz.isAgg5
 z5 := Tryz.sizeOf5
 v5 := Tryz.zeroValue5
 t9 := Tryz.underlying9
 a9 := Tryz.isAgg9
 z9 := Tryz.sizeOf9
 v9 := Tryz.zeroValue9
 t20 := Tryz.underlying20
 a20 := Tryz.isAgg20
 z20 := Tryz.sizeOf20
 v20 := Tryz.zeroValue20
 t21 := Tryz.underlying21
 a21 := Tryz.isAgg21
 z21 := Tryz.sizeOf21
 v21 := Tryz.zeroValue21
 t37 := Tryz.underlying62
 a37 := Tryz.isAgg62
 z37 := Tryz.sizeOf62
 v37 := Tryz.zeroValue62
 t46 := Tryz.underlying106
 a46 := Tryz.isAgg106
 z46 := Tryz.sizeOf106
 v46 := Tryz.zeroValue106
 t51 := Tryz.underlying123
 a51 := Tryz.isAgg123
 z51 := Tryz.sizeOf123
 v51 := Tryz.zeroValue123
 t53 := Tryz.underlying22
 a53 := Tryz.isAgg22
 z53 := Tryz.sizeOf22
 v53 := Tryz.zeroValue22
 t75 := Tryz.underlying74
 a75 := Tryz.isAgg74
 z75 := Tryz.sizeOf74
 v75 := Tryz.zeroValue74
 t76 := Tryz.underlying75
 a76 := Tryz.isAgg75
 z76 := Tryz.sizeOf75
 v76 := Tryz.zeroValue75
 t85 := Tryz.underlying112
 a85 := Tryz.isAgg112
 z85 := Tryz.sizeOf112
 v85 := Tryz.zeroValue112
 t127 := Tryz.underlying122
 a127 := Tryz.isAgg122
 z127 := Tryz.sizeOf122
 v127 := Tryz.zeroValue122
 t143 := Tryz.underlying144
 a143 := Tryz.isAgg144
 z143 := Tryz.sizeOf144
 v143 := Tryz.zeroValue144
 t145 := Tryz.underlying146
 a145 := Tryz.isAgg146
 z145 := Tryz.sizeOf146
 v145 := Tryz.zeroValue146
 t167 := Tryz.underlying111
 a167 := Tryz.isAgg111
 z167 := Tryz.sizeOf111
 v167 := Tryz.zeroValue111
 t168 := Tryz.underlying114
 a168 := Tryz.isAgg114
 z168 := Tryz.sizeOf114
 v168 := Tryz.zeroValue114
 t171 := Tryz.underlying117
 a171 := Tryz.isAgg117
 z171 := Tryz.sizeOf117
 v171 := Tryz.zeroValue117
 t173 := Tryz.underlying120
 a173 := Tryz.isAgg120
 z173 := Tryz.sizeOf120
 v173 := Tryz.zeroValue120
 t175 := Tryz.underlying127
 a175 := Tryz.isAgg127
 z175 := Tryz.sizeOf127
 v175 := Tryz.zeroValue127
 t210 := Tryz.underlying131
 a210 := Tryz.isAgg131
 z210 := Tryz.sizeOf131
 v210 := Tryz.zeroValue131
 t212 := Tryz.underlying134
 a212 := Tryz.isAgg134
 z212 := Tryz.sizeOf134
 v212 := Tryz.zeroValue134
 t213 := Tryz.underlying135
 a213 := Tryz.isAgg135
 z213 := Tryz.sizeOf135
 t232 := Tryz.underlying150
 a232 := Tryz.isAgg150
 z232 := Tryz.sizeOf150
 v232 := Tryz.zeroValue150
 t233 := Tryz.underlying151
 a233 := Tryz.isAgg151
 z233 := Tryz.sizeOf151
 v233 := Tryz.zeroValue151
 g15 := by kernel_rfl
 g16 := by kernel_rfl
 g17 := by kernel_rfl
 g18 := by kernel_rfl
 g19 := by kernel_rfl
 t80 := Tryz.underlying100
 a80 := Tryz.isAgg100
 z80 := Tryz.sizeOf100
 v80 := Tryz.zeroValue100
 i0 := by kernel_rfl
 i2 := by kernel_rfl
 i3 := by kernel_rfl
 i4 := by kernel_rfl
 i5 := by kernel_rfl
 i9 := by kernel_rfl
 i20 := by kernel_rfl
 i21 := by kernel_rfl
 i37 := by kernel_rfl
 i46 := by kernel_rfl
 i51 := by kernel_rfl
 i53 := by kernel_rfl
 i75 := by kernel_rfl
 i76 := by kernel_rfl
 i80 := by kernel_rfl
 i85 := by kernel_rfl
 i127 := by kernel_rfl
 i143 := by kernel_rfl
 i145 := by kernel_rfl
 i167 := by kernel_rfl
 i168 := by kernel_rfl
 i171 := by kernel_rfl
 i173 := by kernel_rfl
 i175 := by kernel_rfl
 i210 := by kernel_rfl
 i212 := by kernel_rfl
 i232 := by kernel_rfl
 i233 := by kernel_rfl
 m15 := by kernel_rfl
 m16 := by kernel_rfl
 m17 := by kernel_rfl
 m18 := by kernel_rfl
 m19 := by kernel_rfl
 c0 := by kernel_rfl
 c2 := by kernel_rfl
 c3 := by kernel_rfl
 c4 := by kernel_rfl
 c5 := by kernel_rfl
 c9 := by kernel_rfl
 c20 := by kernel_rfl
 c21 := by kernel_rfl
 c37 := by kernel_rfl
 c46 := by kernel_rfl
 c51 := by kernel_rfl
 c53 := by kernel_rfl
 c75 := by kernel_rfl
 c76 := by kernel_rfl
 c80 := by kernel_rfl
 c85 := by kernel_rfl
 c127 := by kernel_rfl
 c143 := by kernel_rfl
 c145 := by kernel_rfl
 c167 := by kernel_rfl
 c168 := by kernel_rfl
 c171 := by kernel_rfl
 c173 := by kernel_rfl
 c175 := by kernel_rfl
 c210 := by kernel_rfl
 c212 := by kernel_rfl
 c213 := by kernel_rfl
 c232 := by kernel_rfl
 c233 := by kernel_rfl }
open Go.RowKit in
theorem Tryz.strconv_Atoi_ok (s : ByteArray) (hmax : s.size ≤ 9223372036854775806) (v : Int) (h : Lib.atoiAll s.data.toList = .ok v) (w : World) :
  Calls Tryz.prog 49 #[.string s] w fun e w' => e = .returned (.tuple #[.int .i64 v, .nilIface]) ∧ (w' = w ∨ ∃ t, w' = Lib.bytesWorld w 5 t) := Any.strconv_Atoi_ok Tryz.laysC172 s hmax v h w
open Go.RowKit in
theorem Tryz.strconv_Atoi_syntax (s : ByteArray) (hlim : s.size ≤ 281474976710656) (h : Lib.atoiAll s.data.toList = Lib.atoiAll []) (ev : Value) (w : World) (hv : w.cell? ⟨1, 0, none⟩ = some ev) (hev : ev = .nilIface ∨ ∃ te pe, ev = .iface te pe) :
  Calls Tryz.prog 49 #[.string s] w fun e w' => ∃ N, e = .returned (.tuple #[.int .i64 (0), .iface 114 (.pointer (some ⟨N, 0, none⟩))]) ∧ w.heap.size ≤ N ∧ w'.heap[N]? = some (.cells #[.string ⟨#[65, 116, 111, 105]⟩, .string s, ev] 131 (0, 0)) ∧ Below w.heap.size w w' := Any.strconv_Atoi_syntax Tryz.laysC172 s hlim h ev w hv hev
open Go.RowKit in
theorem Tryz.strconv_Atoi_range (s : ByteArray) (hlim : s.size ≤ 281474976710656) (h : Lib.atoiAll s.data.toList = .range) (ev : Value) (w : World) (hv : w.cell? ⟨2, 0, none⟩ = some ev) (hev : ev = .nilIface ∨ ∃ te pe, ev = .iface te pe) :
  Calls Tryz.prog 49 #[.string s] w fun e w' => ∃ N, e = .returned (.tuple #[.int .i64 (Lib.atoiSat s.data.toList), .iface 114 (.pointer (some ⟨N, 0, none⟩))]) ∧ w.heap.size ≤ N ∧ w'.heap[N]? = some (.cells #[.string ⟨#[65, 116, 111, 105]⟩, .string s, ev] 131 (0, 0)) ∧ Below w.heap.size w w' := Any.strconv_Atoi_range Tryz.laysC172 s hlim h ev w hv hev
def Tryz.laysPu14_ren : Go.Shelf.Ren := ⟨fun | 14 => 99 | 16 => 100 | 17 => 67 | 19 => 112 | 20 => 113 | 21 => 86 | 22 => 87 | 23 => 88 | 24 => 89 | 25 => 101 | 27 => 46 | 26 => 102 | 28 => 60 | 29 => 76 | 30 => 90 | 31 => 91 | 32 => 92 | 33 => 93 | 35 => 104 | 34 => 103 | 36 => 105 | 37 => 106 | 38 => 107 | 39 => 114 | 40 => 115 | n => n, fun | 9 => 9 | 3 => 3 | 22 => 22 | 24 => 74 | 25 => 127 | 4 => 4 | 34 => 111 | 5 => 5 | 36 => 106 | 37 => 62 | 0 => 0 | 39 => 114 | 21 => 21 | 44 => 131 | 47 => 122 | 50 => 146 | 48 => 144 | 2 => 2 | 52 => 117 | 55 => 120 | 59 => 134 | 60 => 123 | 20 => 20 | 61 => 135 | 65 => 150 | 66 => 151 | 67 => 100 | n => n, fun | 0 => 1 | 1 => 2 | 2 => 3 | 3 => 4 | 4 => 5 | n => n⟩
theorem Tryz.laysPu14 : Go.Proofs.LaysPu.n14 Tryz.prog Tryz.laysPu14_ren := {
 mixed := by kernel_rfl
 f14 := Tryz.func99.trans (congrArg some (by kernel_rfl))
 f16 := Tryz.func100.trans (congrArg some (by kernel_rfl))
 f17 := Tryz.func67.trans (congrArg some (by kernel_rfl))
 f19 := Tryz.func112.trans (congrArg some (by kernel_rfl))
 f20 := Tryz.func113.trans (congrArg some (by kernel_rfl))
 f21 := Tryz.func86.trans (congrArg some (by kernel_rfl))
 f22 := Tryz.func87.trans (congrArg some (by kernel_rfl))
 f23 := Tryz.func88.trans (congrArg some (by kernel_rfl))
 f24 := Tryz.func89.trans (congrArg some (by kernel_rfl))
 f25 := Tryz.func101.trans (congrArg some (by kernel_rfl))
 f26 := Tryz.func102.trans (congrArg some (by kernel_rfl))
 f27 := Tryz.func46.trans (congrArg some (by kernel_rfl))
 f28 := Tryz.func60.trans (congrArg some (by kernel_rfl))
 f29 := Tryz.func76.trans (congrArg some (by kernel_rfl))
 f30 := Tryz.func90.trans (congrArg some (by kernel_rfl))
 f31 := Tryz.func91.trans (congrArg some (by kernel_rfl))
 f32 := Tryz.func92.trans (congrArg some (by kernel_rfl))
 f33 := Tryz.func93.trans (congrArg some (by kernel_rfl))
 f34 := Tryz.func103.trans (congrArg some (by kernel_rfl))
 f35 := Tryz.func104.trans (congrArg some (by kernel_rfl))
 f36 := Tryz.func105.trans (congrArg some (by kernel_rfl))
 f37 := Tryz.func106.trans (congrArg some (by kernel_rfl))
 f38 := Tryz.func107.trans (congrArg some (by kernel_rfl))
 f39 := Tryz.func114.trans (congrArg some (by kernel_rfl))
 f40 := Tryz.func115.trans (congrArg some (by kernel_rfl))
 t0 := Tryz.underlying0
 a0 := Tryz.isAgg0
 z0 := Tryz.sizeOf0
 v0 := Tryz.zeroValue0
 i0 := by kernel_rfl
 t2 := Tryz.underlying2
 a2 := Tryz.isAgg2
 z2 := Tryz.sizeOf2
 v2 := Tryz.zeroValue2
 i2 := by kernel_rfl
 t3 := Tryz.underlying3
 a3 := Tryz.isAgg3
 z3 := Tryz.sizeOf3
 v3 := Tryz.zeroValue3
 i3 := by kernel_rfl
 t4 := Tryz.underlying4
 a4 := Tryz.isAgg4
 z4 := Tryz.sizeOf4
 v4 := Tryz.zeroValue4
 i4 := by kernel_rfl
 t5 := Tryz.underlying5
 a5 := Tryz.isAgg5
 z5 := Tryz.sizeOf5
 v5 := Tryz.zeroValue5
 i5 := by kernel_rfl
 t9 := Tryz.underlying9
 a9 := Tryz.isAgg9
 z9 := Tryz.sizeOf9
 v9 := Tryz.zeroValue9
 i9 := by kernel_rfl
 t20 := Tryz.underlying20
 a20 := Tryz.isAgg20
 z20 := Tryz.sizeOf20
 v20 := Tryz.zeroValue20
 i20 := by kernel_rfl
 t21 := Tryz.underlying21
 a21 := Tryz.isAgg21
 z21 := Tryz.sizeOf21
 v21 := Tryz.zeroValue21
 i21 := by kernel_rfl
 t22 := Tryz.underlying22
 a22 := Tryz.isAgg22
 z22 := Tryz.sizeOf22
 v22 := Tryz.zeroValue22
 i22 := by kernel_rfl
 t24 := Tryz.underlying74
 a24 := Tryz.isAgg74
 z24 := Tryz.sizeOf74
 v24 := Tryz.zeroValue74
 i24 := by kernel_rfl
 t25 := Tryz.underlying127
 a25 := Tryz.isAgg127
 z25 := Tryz.sizeOf127
 v25 := Tryz.zeroValue127
 i25 := by kernel_rfl
 t34 := Tryz.underlying111
 a34 := Tryz.isAgg111
 z34 := Tryz.sizeOf111
 v34 := Tryz.zeroValue111
 i34 := by kernel_rfl
 c34 := by kernel_rfl
 t36 := Tryz.underlying106
 a36 := Tryz.isAgg106
 z36 := Tryz.sizeOf106
 v36 := Tryz.zeroValue106
 i36 := by kernel_rfl
 t37 := Tryz.underlying62
 a37 := Tryz.isAgg62
 z37 := Tryz.sizeOf62
 v37 := Tryz.zeroValue62
 i37 := by kernel_rfl
 t39 := Tryz.underlying114
 a39 := Tryz.isAgg114
 z39 := Tryz.sizeOf114
 v39 := Tryz.zeroValue114
 i39 := by kernel_rfl
 t44 := Tryz.underlying131
 a44 := Tryz.isAgg131
 z44 := Tryz.sizeOf131
 v44 := Tryz.zeroValue131
 i44 := by kernel_rfl
 t47 := Tryz.underlying122
 a47 := Tryz.isAgg122
 z47 := Tryz.sizeOf122
 v47 := Tryz.zeroValue122
 i47 := by kernel_rfl
 t48 := Tryz.underlying144
 a48 := Tryz.isAgg144
 z48 := Tryz.sizeOf144
 v48 := Tryz.zeroValue144
 i48 := by kernel_rfl
 t50 := Tryz.underlying146
 a50 := Tryz.isAgg146
 z50 := Tryz.sizeOf146
 v50 := Tryz.zeroValue146
 i50 := by kernel_rfl
 t52 := Tryz.underlying117
 a52 := Tryz.isAgg117
 z52 := Tryz.sizeOf117
 v52 := Tryz.zeroValue117
 i52 := by kernel_rfl
 t55 := Tryz.underlying120
 a55 := Tryz.isAgg120
 z55 := Tryz.sizeOf120
 v55 := Tryz.zeroValue120
 i55 := by kernel_rfl
 t59 := Tryz.underlying134
 a59 := Tryz.isAgg134
 z59 := Tryz.sizeOf134
 v59 := Tryz.zeroValue134
 i59 := by kernel_rfl
 t60 := Tryz.underlying123
 a60 := Tryz.isAgg123
 z60 := Tryz.sizeOf123
 v60 := Tryz.zeroValue123
 i60 := by kernel_rfl
 t61 := Tryz.underlying135
 a61 := Tryz.isAgg135
 z61 := Tryz.sizeOf135
 t65 := Tryz.underlying150
 a65 := Tryz.isAgg150
 z65 := Tryz.sizeOf150
 v65 := Tryz.zeroValue150
 i65 := by kernel_rfl
 t66 := Tryz.underlying151
 a66 := Tryz.isAgg151
 z66 := Tryz.sizeOf151
 v66 := Tryz.zeroValue151
 i66 := by kernel_rfl
 t67 := Tryz.underlying100
 a67 := Tryz.isAgg100
 z67 := Tryz.sizeOf100
 v67 := Tryz.zeroValue100
 i67 := by kernel_rfl
 g0 := by kernel_rfl
 m0 := by kernel_rfl
 g1 := by kernel_rfl
 m1 := by kernel_rfl
 g2 := by kernel_rfl
 m2 := by kernel_rfl
 g3 := by kernel_rfl
 m3 := by kernel_rfl
 g4 := by kernel_rfl
 m4 := by kernel_rfl }
open Go.RowKit in
theorem Tryz.strconv_ParseUint_10_at32_ok (s : ByteArray) (hmax : s.size ≤ 9223372036854775806) (u : Nat) (h : Lib.parseUintB 32 s.data.toList = .ok u) (w : World) :
  Calls Tryz.prog 99 #[.string s, .int .i64 10, .int .i64 32] w fun e w' => e = .returned (.tuple #[.int .u64 u, .nilIface]) ∧ (w' = w ∨ w' = Lib.bytesWorld w 5 s) := Any.strconv_ParseUint_10_at32_ok Tryz.laysPu14 s hmax u h w
open Go.RowKit in
theorem Tryz.strconv_ParseUint_10_at32_syntax (s : ByteArray) (hlim : s.size ≤ 281474976710656) (h : Lib.parseUintB 32 s.data.toList = Lib.parseUintB 32 []) (ev : Value) (w : World) (hv : w.cell? ⟨1, 0, none⟩ = some ev) (hev : ev = .nilIface ∨ ∃ te pe, ev = .iface te pe) :
  Calls Tryz.prog 99 #[.string s, .int .i64 10, .int .i64 32] w fun e w' => ∃ N, e = .returned (.tuple #[.int .u64 0, .iface 114 (.pointer (some ⟨N, 0, none⟩))]) ∧ w.heap.size ≤ N ∧ w'.heap[N]? = some (.cells #[.string ⟨#[80, 97, 114, 115, 101, 85, 105, 110, 116]⟩, .string s, ev] 131 (0, 0)) ∧ Below w.heap.size w w' := Any.strconv_ParseUint_10_at32_syntax Tryz.laysPu14 s hlim h ev w hv hev
open Go.RowKit in
theorem Tryz.strconv_ParseUint_10_at32_range (s : ByteArray) (hlim : s.size ≤ 281474976710656) (h : Lib.parseUintB 32 s.data.toList = .range) (ev : Value) (w : World) (hv : w.cell? ⟨2, 0, none⟩ = some ev) (hev : ev = .nilIface ∨ ∃ te pe, ev = .iface te pe) :
  Calls Tryz.prog 99 #[.string s, .int .i64 10, .int .i64 32] w fun e w' => ∃ N, e = .returned (.tuple #[.int .u64 4294967295, .iface 114 (.pointer (some ⟨N, 0, none⟩))]) ∧ w.heap.size ≤ N ∧ w'.heap[N]? = some (.cells #[.string ⟨#[80, 97, 114, 115, 101, 85, 105, 110, 116]⟩, .string s, ev] 131 (0, 0)) ∧ Below w.heap.size w w' := Any.strconv_ParseUint_10_at32_range Tryz.laysPu14 s hlim h ev w hv hev
def Tryz.lays219_ren : Go.Shelf.Ren := ⟨fun | 219 => 61 | 217 => 77 | 225 => 78 | 224 => 79 | 267 => 80 | 266 => 96 | 314 => 97 | n => n, fun | 9 => 9 | 3 => 3 | 4 => 4 | 5 => 5 | 46 => 106 | 146 => 124 | 51 => 123 | n => n, fun | 1 => 0 | n => n⟩
theorem Tryz.lays219 : Go.Proofs.Lays.n219 Tryz.prog Tryz.lays219_ren := {
 mixed := by kernel_rfl
 f217 := Tryz.func77.trans (congrArg some (by kernel_rfl))
 f219 := Tryz.func61.trans (congrArg some (by kernel_rfl))
 f224 := Tryz.func79.trans (congrArg some (by kernel_rfl))
 f225 := Tryz.func78.trans (congrArg some (by kernel_rfl))
 f266 := Tryz.func96.trans (congrArg some (by kernel_rfl))
 f267 := Tryz.func80.trans (congrArg some (by kernel_rfl))
 f314 := Tryz.func97.trans (congrArg some (by kernel_rfl))
 t3 := Tryz.underlying3
 a3 := Tryz.isAgg3
 z3 := Tryz.sizeOf3
 v3 := Tryz.zeroValue3
 t4 := Tryz.underlying4
 a4 := Tryz.isAgg4
 z4 := Tryz.sizeOf4
 v4 := Tryz.zeroValue4
 t5 := Tryz.underlying5
 a5 := Tryz.isAgg5
 z5 := Tryz.sizeOf5
 v5 := Tryz.zeroValue5
 t9 := Tryz.underlying9
 a9 := Tryz.isAgg9
 z9 := Tryz.sizeOf9
 v9 := Tryz.zeroValue9
 t46 := Tryz.underlying106
 a46 := Tryz.isAgg106
 z46 := Tryz.sizeOf106
 v46 := Tryz.zeroValue106
 t51 := Tryz.underlying123
 a51 := Tryz.isAgg123
 z51 := Tryz.sizeOf123
 v51 := Tryz.zeroValue123
 t146 := Tryz.underlying124
 a146 := Tryz.isAgg124
 z146 := Tryz.sizeOf124
 v146 := Tryz.zeroValue124
 g1 := by kernel_rfl }
open Go.RowKit Go.Lib in
theorem Tryz.stringslite_Index_one (s : ByteArray) (c : UInt8) (w : World) :
  Calls Tryz.prog 61 #[.string s, .string ⟨#[c]⟩] w fun e w' => e = .returned (.int .i64 (Lib.indexByte s.data.toList c)) ∧ w' = w := Any.stringslite_Index_one Tryz.lays219 s c w
def Tryz.lays143_ren : Go.Shelf.Ren := ⟨fun | 143 => 81 | 219 => 61 | 217 => 77 | 225 => 78 | 224 => 79 | 267 => 80 | 266 => 96 | 314 => 97 | n => n, fun | 9 => 9 | 3 => 3 | 4 => 4 | 5 => 5 | 46 => 106 | 146 => 124 | 51 => 123 | n => n, fun | 1 => 0 | n => n⟩
theorem Tryz.lays143 : Go.Proofs.Lays.n143 Tryz.prog Tryz.lays143_ren := {
 mixed := by kernel_rfl
 f143 := Tryz.func81.trans (congrArg some (by kernel_rfl))
 f217 := Tryz.func77.trans (congrArg some (by kernel_rfl))
 f219 := Tryz.func61.trans (congrArg some (by kernel_rfl))
 f224 := Tryz.func79.trans (congrArg some (by kernel_rfl))
 f225 := Tryz.func78.trans (congrArg some (by kernel_rfl))
 f266 := Tryz.func96.trans (congrArg some (by kernel_rfl))
 f267 := Tryz.func80.trans (congrArg some (by kernel_rfl))
 f314 := Tryz.func97.trans (congrArg some (by kernel_rfl))
 t3 := Tryz.underlying3
 a3 := Tryz.isAgg3
 z3 := Tryz.sizeOf3
 v3 := Tryz.zeroValue3
 t4 := Tryz.underlying4
 a4 := Tryz.isAgg4
 z4 := Tryz.sizeOf4
 v4 := Tryz.zeroValue4
 t5 := Tryz.underlying5
 a5 := Tryz.isAgg5
 z5 := Tryz.sizeOf5
 v5 := Tryz.zeroValue5
 t9 := Tryz.underlying9
 a9 := Tryz.isAgg9
 z9 := Tryz.sizeOf9
 v9 := Tryz.zeroValue9
 t46 := Tryz.underlying106
 a46 := Tryz.isAgg106
 z46 := Tryz.sizeOf106
 v46 := Tryz.zeroValue106
 t51 := Tryz.underlying123
 a51 := Tryz.isAgg123
 z51 := Tryz.sizeOf123
 v51 := Tryz.zeroValue123
 t146 := Tryz.underlying124
 a146 := Tryz.isAgg124
 z146 := Tryz.sizeOf124
 v146 := Tryz.zeroValue124
 g1 := by kernel_rfl }
open Go.RowKit Go.Lib in
theorem Tryz.strings_Index_one (s : ByteArray) (c : UInt8) (w : World) :
  Calls Tryz.prog 81 #[.string s, .string ⟨#[c]⟩] w fun e w' => e = .returned (.int .i64 (Lib.indexByte s.data.toList c)) ∧ w' = w := Any.strings_Index_one Tryz.lays143 s c w
def Tryz.lays144_ren : Go.Shelf.Ren := ⟨fun | 144 => 63 | 143 => 81 | 219 => 61 | 217 => 77 | 225 => 78 | 224 => 79 | 267 => 80 | 266 => 96 | 314 => 97 | n => n, fun | 9 => 9 | 4 => 4 | 3 => 3 | 5 => 5 | 46 => 106 | 146 => 124 | 51 => 123 | n => n, fun | 1 => 0 | n => n⟩
theorem Tryz.lays144 : Go.Proofs.Lays.n144 Tryz.prog Tryz.lays144_ren := {
 mixed := by kernel_rfl
 f143 := Tryz.func81.trans (congrArg some (by kernel_rfl))
 f144 := Tryz.func63.trans (congrArg some (by kernel_rfl))
 f217 := Tryz.func77.trans (congrArg some (by kernel_rfl))
 f219 := Tryz.func61.trans (congrArg some (by kernel_rfl))
 f224 := Tryz.func79.trans (congrArg some (by kernel_rfl))
 f225 := Tryz.func78.trans (congrArg some (by kernel_rfl))
 f266 := Tryz.func96.trans (congrArg some (by kernel_rfl))
 f267 := Tryz.func80.trans (congrArg some (by kernel_rfl))
 f314 := Tryz.func97.trans (congrArg some (by kernel_rfl))
 t3 := Tryz.underlying3
 a3 := Tryz.isAgg3
 z3 := Tryz.sizeOf3
 v3 := Tryz.zeroValue3
 t4 := Tryz.underlying4
 a4 := Tryz.isAgg4
 z4 := Tryz.sizeOf4
 v4 := Tryz.zeroValue4
 t5 := Tryz.underlying5
 a5 := Tryz.isAgg5
 z5 := Tryz.sizeOf5
 v5 := Tryz.zeroValue5
 t9 := Tryz.underlying9
 a9 := Tryz.isAgg9
 z9 := Tryz.sizeOf9
 v9 := Tryz.zeroValue9
 t46 := Tryz.underlying106
 a46 := Tryz.isAgg106
 z46 := Tryz.sizeOf106
 v46 := Tryz.zeroValue106
 t51 := Tryz.underlying123
 a51 := Tryz.isAgg123
 z51 := Tryz.sizeOf123
 v51 := Tryz.zeroValue123
 t146 := Tryz.underlying124
 a146 := Tryz.isAgg124
 z146 := Tryz.sizeOf124
 v146 := Tryz.zeroValue124
 g1 := by kernel_rfl }
open Go.RowKit Go.Lib in
theorem Tryz.strings_Contains_one (s : ByteArray) (c : UInt8) (w : World) :
  Calls Tryz.prog 63 #[.string s, .string ⟨#[c]⟩] w fun e w' => e = .returned (.bool (decide (0 ≤ Lib.indexByte s.data.toList c))) ∧ w' = w := Any.strings_Contains_one Tryz.lays144 s c w
def Tryz.lays145_ren : Go.Shelf.Ren := ⟨fun | 145 => 21 | 220 => 47 | 219 => 61 | 217 => 77 | 225 => 78 | 224 => 79 | 267 => 80 | 266 => 96 | 314 => 97 | n => n, fun | 9 => 9 | 4 => 4 | 59 => 50 | 3 => 3 | 5 => 5 | 46 => 106 | 146 => 124 | 51 => 123 | n => n, fun | 1 => 0 | n => n⟩
theorem Tryz.lays145 : Go.Proofs.Lays.n145 Tryz.prog Tryz.lays145_ren := {
 mixed := by kernel_rfl
 f145 := Tryz.func21.trans (congrArg some (by kernel_rfl))
 f217 := Tryz.func77.trans (congrArg some (by kernel_rfl))
 f219 := Tryz.func61.trans (congrArg some (by kernel_rfl))
 f220 := Tryz.func47.trans (congrArg some (by kernel_rfl))
 f224 := Tryz.func79.trans (congrArg some (by kernel_rfl))
 f225 := Tryz.func78.trans (congrArg some (by kernel_rfl))
 f266 := Tryz.func96.trans (congrArg some (by kernel_rfl))
 f267 := Tryz.func80.trans (congrArg some (by kernel_rfl))
 f314 := Tryz.func97.trans (congrArg some (by kernel_rfl))
 t3 := Tryz.underlying3
 a3 := Tryz.isAgg3
 z3 := Tryz.sizeOf3
 v3 := Tryz.zeroValue3
 t4 := Tryz.underlying4
 a4 := Tryz.isAgg4
 z4 := Tryz.sizeOf4
 v4 := Tryz.zeroValue4
 t5 := Tryz.underlying5
 a5 := Tryz.isAgg5
 z5 := Tryz.sizeOf5
 v5 := Tryz.zeroValue5
 t9 := Tryz.underlying9
 a9 := Tryz.isAgg9
 z9 := Tryz.sizeOf9
 v9 := Tryz.zeroValue9
 t46 := Tryz.underlying106
 a46 := Tryz.isAgg106
 z46 := Tryz.sizeOf106
 v46 := Tryz.zeroValue106
 t51 := Tryz.underlying123
 a51 := Tryz.isAgg123
 z51 := Tryz.sizeOf123
 v51 := Tryz.zeroValue123
 t59 := Tryz.underlying50
 a59 := Tryz.isAgg50
 z59 := Tryz.sizeOf50
 v59 := Tryz.zeroValue50
 t146 := Tryz.underlying124
 a146 := Tryz.isAgg124
 z146 := Tryz.sizeOf124
 v146 := Tryz.zeroValue124
 g1 := by kernel_rfl }
open Go.RowKit Go.Lib in
theorem Tryz.strings_Cut (s sep : ByteArray) (m : Int) (w : World) (hs : s.size < 4294967281) (hm : w.cell? ⟨0, 0, none⟩ = some (.int .i64 m)) :
  Calls Tryz.prog 21 #[.string s, .string sep] w fun e w' => e = .returned (.tuple #[.string ⟨(Lib.cut s.data.toList sep.data.toList).1.toArray⟩, .string ⟨(Lib.cut s.data.toList sep.data.toList).2.1.toArray⟩, .bool (Lib.cut s.data.toList sep.data.toList).2.2]) ∧ ∃ n, w' = w.drewN n := Any.strings_Cut Tryz.lays145 s sep m w hs hm
def Tryz.lays138_ren : Go.Shelf.Ren := ⟨fun | 138 => 111 | 195 => 116 | 218 => 118 | 143 => 81 | 219 => 61 | 217 => 77 | 225 => 78 | 224 => 79 | 267 => 80 | 266 => 96 | 314 => 97 | n => n, fun | 9 => 9 | 3 => 3 | 4 => 4 | 5 => 5 | 0 => 0 | 46 => 106 | 146 => 124 | 51 => 123 | n => n, fun | 1 => 0 | n => n⟩
theorem Tryz.lays138 : Go.Proofs.Lays.n138 Tryz.prog Tryz.lays138_ren := {
 mixed := by kernel_rfl
 f138 := Tryz.func111.trans (congrArg some (by kernel_rfl))
 f143 := Tryz.func81.trans (congrArg some (by kernel_rfl))
 f195 := Tryz.func116.trans (congrArg some (by kernel_rfl))
 f217 := Tryz.func77.trans (congrArg some (by kernel_rfl))
 f218 := Tryz.func118.trans (congrArg some (by kernel_rfl))
 f219 := Tryz.func61.trans (congrArg some (by kernel_rfl))
 f224 := Tryz.func79.trans (congrArg some (by kernel_rfl))
 f225 := Tryz.func78.trans (congrArg some (by kernel_rfl))
 f266 := Tryz.func96.trans (congrArg some (by kernel_rfl))
 f267 := Tryz.func80.trans (congrArg some (by kernel_rfl))
 f314 := Tryz.func97.trans (congrArg some (by kernel_rfl))
 t0 := Tryz.underlying0
 a0 := Tryz.isAgg0
 z0 := Tryz.sizeOf0
 v0 := Tryz.zeroValue0
 t3 := Tryz.underlying3
 a3 := Tryz.isAgg3
 z3 := Tryz.sizeOf3
 v3 := Tryz.zeroValue3
 t4 := Tryz.underlying4
 a4 := Tryz.isAgg4
 z4 := Tryz.sizeOf4
 v4 := Tryz.zeroValue4
 t5 := Tryz.underlying5
 a5 := Tryz.isAgg5
 z5 := Tryz.sizeOf5
 v5 := Tryz.zeroValue5
 t9 := Tryz.underlying9
 a9 := Tryz.isAgg9
 z9 := Tryz.sizeOf9
 v9 := Tryz.zeroValue9
 t46 := Tryz.underlying106
 a46 := Tryz.isAgg106
 z46 := Tryz.sizeOf106
 v46 := Tryz.zeroValue106
 t51 := Tryz.underlying123
 a51 := Tryz.isAgg123
 z51 := Tryz.sizeOf123
 v51 := Tryz.zeroValue123
 t146 := Tryz.underlying124
 a146 := Tryz.isAgg124
 z146 := Tryz.sizeOf124
 v146 := Tryz.zeroValue124
 g1 := by kernel_rfl }
open Go.RowKit Go.Lib in
theorem Tryz.strings_Count_one (s : ByteArray) (c : UInt8) (w : World) :
  Calls Tryz.prog 111 #[.string s, .string ⟨#[c]⟩] w fun e w' => e = .returned (.int .i64 (Lib.countByte s.data.toList c)) ∧ w' = w := Any.strings_Count_one Tryz.lays138 s c w
def Tryz.lays146_ren : Go.Shelf.Ren := ⟨fun | 146 => 83 | 221 => 98 | 268 => 110 | 138 => 111 | 143 => 81 | 195 => 116 | 197 => 117 | 218 => 118 | 219 => 61 | 260 => 119 | 217 => 77 | 225 => 78 | 224 => 79 | 267 => 80 | 266 => 96 | 314 => 97 | n => n, fun | 9 => 9 | 31 => 64 | 3 => 3 | 4 => 4 | 0 => 0 | 105 => 148 | 21 => 21 | 5 => 5 | 46 => 106 | 119 => 152 | 139 => 155 | 138 => 154 | 146 => 124 | 51 => 123 | n => n, fun | 1 => 0 | 3 => 6 | 4 => 7 | n => n⟩
theorem Tryz.lays146 : Go.Proofs.Lays.n146 Tryz.prog Tryz.lays146_ren := {
 mixed := by kernel_rfl
 f138 := Tryz.func111.trans (congrArg some (by kernel_rfl))
 f143 := Tryz.func81.trans (congrArg some (by kernel_rfl))
 f146 := Tryz.func83.trans (congrArg some (by kernel_rfl))
 f195 := Tryz.func116.trans (congrArg some (by kernel_rfl))
 f197 := Tryz.func117.trans (congrArg some (by kernel_rfl))
 f217 := Tryz.func77.trans (congrArg some (by kernel_rfl))
 f218 := Tryz.func118.trans (congrArg some (by kernel_rfl))
 f219 := Tryz.func61.trans (congrArg some (by kernel_rfl))
 f221 := Tryz.func98.trans (congrArg some (by kernel_rfl))
 f224 := Tryz.func79.trans (congrArg some (by kernel_rfl))
 f225 := Tryz.func78.trans (congrArg some (by kernel_rfl))
 f260 := Tryz.func119.trans (congrArg some (by kernel_rfl))
 f266 := Tryz.func96.trans (congrArg some (by kernel_rfl))
 f267 := Tryz.func80.trans (congrArg some (by kernel_rfl))
 f268 := Tryz.func110.trans (congrArg some (by kernel_rfl))
 f314 := Tryz.func97.trans (congrArg some (by kernel_rfl))
 t0 := Tryz.underlying0
 a0 := Tryz.isAgg0
 z0 := Tryz.sizeOf0
 v0 := Tryz.zeroValue0
 t3 := Tryz.underlying3
 a3 := Tryz.isAgg3
 z3 := Tryz.sizeOf3
 v3 := Tryz.zeroValue3
 t4 := Tryz.underlying4
 a4 := Tryz.isAgg4
 z4 := Tryz.sizeOf4
 v4 := Tryz.zeroValue4
 t5 := Tryz.underlying5
 a5 := Tryz.isAgg5
 z5 := Tryz.sizeOf5
 v5 := Tryz.zeroValue5
 t9 := Tryz.underlying9
 a9 := Tryz.isAgg9
 z9 := Tryz.sizeOf9
 v9 := Tryz.zeroValue9
 t21 := Tryz.underlying21
 a21 := Tryz.isAgg21
 z21 := Tryz.sizeOf21
 v21 := Tryz.zeroValue21
 t31 := Tryz.underlying64
 a31 := Tryz.isAgg64
 z31 := Tryz.sizeOf64
 v31 := Tryz.zeroValue64
 t46 := Tryz.underlying106
 a46 := Tryz.isAgg106
 z46 := Tryz.sizeOf106
 v46 := Tryz.zeroValue106
 t51 := Tryz.underlying123
 a51 := Tryz.isAgg123
 z51 := Tryz.sizeOf123
 v51 := Tryz.zeroValue123
 t105 := Tryz.underlying148
 a105 := Tryz.isAgg148
 z105 := Tryz.sizeOf148
 v105 := Tryz.zeroValue148
 t119 := Tryz.underlying152
 a119 := Tryz.isAgg152
 z119 := Tryz.sizeOf152
 t138 := Tryz.underlying154
 a138 := Tryz.isAgg154
 z138 := Tryz.sizeOf154
 v138 := Tryz.zeroValue154
 t139 := Tryz.underlying155
 a139 := Tryz.isAgg155
 z139 := Tryz.sizeOf155
 v139 := Tryz.zeroValue155
 t146 := Tryz.underlying124
 a146 := Tryz.isAgg124
 z146 := Tryz.sizeOf124
 v146 := Tryz.zeroValue124
 g1 := by kernel_rfl
 g3 := by kernel_rfl
 g4 := by kernel_rfl }
end Go.Proofs
namespace Go.Proofs.YthoipikkaelohaaGreatDoor
open Go Go.Ma Go.RowKit Go.Proofs
theorem one_flat {P : Program} {f : FuncId} {ps : List PS} {k : K} {t : PsT ps → Option (PsT [PS.one (.fl k)])} (vals : PsT ps → List Value)
  (hv : ∀ x ρ, denL ρ (encA false ps x 0).1 = vals x) 
  (h : ∀ x y, t x = some (y, ()) → ∀ w, Glob P w → Calls P f (vals x).toArray w fun e w' => e = .returned (den (fun _ => Go.undef) (flV k y)) ∧ Below w.heap.size w w')
  (hr : ∀ (y : k.T), resR [PS.one (.fl k)] (flV k y) [] = some (y, ())) : TrOk P f (con ps [.one (.fl k)] t) :=
 con_of _ _ _ fun x y hx ρ us vs w hG hu => by
  obtain ⟨y1, u⟩ := y
  have hd := hu.den _ (gives_nameOf us)
  rw [hv x] at hd
  rw [← hd]
  refine (h x y1 hx w hG).mono ?_
  rintro e w' ⟨rfl, hb⟩
  exact ⟨fun _ => Go.undef, flV k y1, [], rfl, ⟨hb, fun j o h => by simp at h, fun i j o o' _ h => by simp at h, fun j o h => by simp at h⟩, hr y1⟩
theorem below_drewN (w : World) (n : Nat) : Below w.heap.size w (w.drewN n) := ⟨rfl, rfl, rfl, Nat.le_refl _, fun _ _ => rfl⟩
noncomputable def internal_stringslite_Index_con : Con := con [.one (.fl .str), .one (.fl .str)] [.one (.fl .int)] (fun x => zq5 x.1 x.2.1)
theorem internal_stringslite_Index_ok : TrOk Tryz.prog 61 internal_stringslite_Index_con :=
 one_flat (fun x => [.string x.1, .string x.2.1]) (fun _ _ => rfl) (fun x y hx w hG => by
  obtain ⟨s, sep, u⟩ := x
  unfold zq5 at hx
  simp only at hx
  split at hx
  ·rename_i c hc
   injection hx with hx
   injection hx with hx
   subst hx
   have hsep : sep = ⟨#[c]⟩ := by
    cases sep with | mk a => 
    have : a = #[c] := Array.toList_inj.1 hc
    rw [this]
   subst hsep
   refine (Go.Proofs.Tryz.stringslite_Index_one s c w).mono ?_
   rintro e w' ⟨rfl, rfl⟩
   exact ⟨rfl, Below.refl _ _⟩
  ·cases hx) (fun _ => rfl)
theorem tab_powB {w : World} (hG : Glob Tryz.prog w) : Lib.TabIs Tryz.prog w "internal/strconv.uint64pow10" .u64 Lib.pow10Tab := by
 have hg : Tryz.prog.globalNamed "internal/strconv.uint64pow10" = some 3 := by kernel_rfl
 obtain ⟨t, z, h⟩ := hG.pow _ hg
 have e : pow10s = Lib.pow10Tab := by decide +kernel
 unfold Lib.TabIs World.var?
 simp [hg, h, e]
theorem itoa_nat (i : Nat) : Lib.itoa (i : Int) = Lib.decDigits i := by
 unfold Lib.itoa
 rw [if_neg (by omega)]
 rfl
theorem itoa_walk (i : Nat) (hi : i < 9223372036854775808) (w : World) (hG : Glob Tryz.prog w) : Calls Tryz.prog 46 #[.int .i64 (i : Int)] w fun e w' => e = .returned (.string ⟨(Lib.decDigits i).toArray⟩) ∧ Below w.heap.size w w' := by
 refine (Go.Proofs.Tryz.strconv_Itoa (i : Int) (by omega) (by omega) w (tab_powB hG)).mono ?_
 rintro e w' ⟨rfl, k, os, rfl⟩
 exact ⟨by rw [itoa_nat], Lib.below_grow w.heap.size w (Nat.le_refl _) k os⟩
noncomputable def strconv_Itoa_con : Con := con [.one (.fl .int)] [.one (.fl .str)] (fun x => strconv_Itoa_t x.1)
theorem strconv_Itoa_ok : TrOk Tryz.prog 46 strconv_Itoa_con :=
 one_flat (fun x => [.int .i64 x.1]) (fun _ _ => rfl) (fun x y hx w hG => by
  obtain ⟨n, u⟩ := x
  unfold strconv_Itoa_t at hx
  obtain ⟨hq, hx⟩ := req_some hx
  simp only [Bool.and_eq_true, decide_eq_true_eq] at hq
  injection hx with hx
  injection hx with hx
  subst hx
  obtain ⟨i, rfl⟩ := Int.eq_ofNat_of_zero_le hq.1
  refine (itoa_walk i (by omega) w hG).mono ?_
  rintro e w' ⟨rfl, hb⟩
  exact ⟨rfl, hb⟩) (fun _ => rfl)
theorem str_den (ρ : Nat → Value) : ∀ l : List ByteArray, (List.flatMap (fun a => denL ρ (K.enc .str a)) (show List K.str.T from l)) = l.map Value.string
 | [] => rfl
 | a :: r => by
  show denL ρ (K.enc .str a) ++ List.flatMap (fun a => denL ρ (K.enc .str a)) (show List K.str.T from r) = _
  rw [str_den ρ r]
  rfl
noncomputable def strings_Join_con : Con := con [.one (.row .str 9), .one (.fl .str)] [.one (.fl .str)] (fun x => strings_Join_t x.1 x.2.1)
theorem join_main (l : List ByteArray) (sep : ByteArray) (y : ByteArray × Unit) (hx : strings_Join_t l sep = some y) (ρ : Nat → Value) (us vals : List Value) (w : World)
  (hu : ArgsOk w ρ 0 vals (encA false [.one (.row .str 9), .one (.fl .str)] (l, sep, ()) 0).1 (encA false [.one (.row .str 9), .one (.fl .str)] (l, sep, ()) 0).2 us) :
  Calls Tryz.prog 57 vals.toArray w fun e w' => ∃ ρc r m', e = .returned (den ρc r) ∧ RelM w ρc m' w' ∧ resR [.one (.fl .str)] r m' = some y := by
 have hg := gives_nameOf us
 have hlen := hu.len
 have hdenv := hu.den _ hg
 obtain ⟨v, rfl⟩ : ∃ v, us = [v] := by
  have hl1 : us.length = 1 := hlen
  match us, hl1 with
  | [v], _ => exact ⟨v, rfl⟩
 obtain ⟨hob, _⟩ := hu.obj w _ hg 0 (.row (.ty .str l) 9 false) v rfl rfl
 obtain ⟨_, _, hrow0⟩ := hob
 rw [if_neg (by simp)] at hrow0
 have hrow : RowIs w v l.length 1 (List.flatMap (fun a => denL (nameOf [v]) (K.enc .str a)) (show List K.str.T from l)) := hrow0
 rw [str_den] at hrow
 unfold strings_Join_t at hx
 obtain ⟨hq, hx⟩ := req_some hx
 simp only [Bool.and_eq_true] at hq
 have q2 := Nat.le_of_ble_eq_true hq.1
 have q3 := Nat.le_of_ble_eq_true hq.2
 injection hx with hx
 subst hx
 obtain ⟨_, A, cap, hv, hn, hc, hA, hcells⟩ := hrow
 have hvals : vals = [.slice A l.length cap, .string sep] := hdenv.symm.trans (by rw [hv]; rfl)
 subst hvals
 by_cases hl0 : l = []
 ·subst hl0
  refine (Go.Proofs.Tryz.strings_Join_none A cap sep w).mono ?_
  rintro e w' ⟨rfl, rfl⟩
  exact ⟨fun _ => Go.undef, .s ⟨#[]⟩, [], rfl, ⟨Below.refl _ _, fun j o h => by simp at h, fun i j o o' _ h => by simp at h, fun j o h => by simp at h⟩, rfl⟩
 have q1 : 1 ≤ l.length := by
  cases l with
  | nil => exact absurd rfl hl0
  | cons x r => simp
 cases A with
 | none => have := hA rfl; omega
 | some a =>
  obtain ⟨hlt, hcl⟩ := hcells a rfl
  obtain ⟨blk, off, spot⟩ := a
  have hs : spot = none := by
   have h0 := hcl 0 (.string (l[0]'(by omega))) (by simp)
   rw [show Addr.add ⟨blk, off, spot⟩ 0 = ⟨blk, off, spot⟩ from rfl] at h0
   cases spot with
   | none => rfl
   | some q =>
    unfold World.cell? at h0
    split at h0
    ·simp at h0
    ·cases h0
  subst hs
  have hj := Go.Proofs.Tryz.strings_Join blk off cap l sep w (fun j x hx => by
   have := hcl j (.string x) (by simp [hx])
   rwa [Addr.add_lit] at this) (by first | exact hlt | exact hlt (by omega)) (by omega) hn (by omega)
  refine hj.mono ?_
  rintro e w' ⟨rfl, hb⟩
  refine ⟨fun _ => Go.undef, .s ⟨(Lib.join (l.map (·.data.toList)) sep.data.toList).toArray⟩, [], rfl, ?_, rfl⟩
  exact ⟨hb, fun j o h => by simp at h, fun i j o o' _ h => by simp at h, fun j o h => by simp at h⟩
theorem strings_Join_ok : TrOk Tryz.prog 57 strings_Join_con := con_of _ _ _ fun x y hx ρ us vals w _ hu => join_main x.1 x.2.1 y hx ρ us vals w hu
theorem info9 : (Tryz.prog.info? 9).map (fun i => (i.zero, i.size, i.bytes)) = some (some (.string ByteArray.empty), 1, 16) := by kernel_rfl
set_option maxHeartbeats 1000000 in
theorem split_one (s : ByteArray) (c : UInt8) (w : World) (hs : s.size < 4294967281) :
  Calls Tryz.prog 83 #[.string s, .string ⟨#[c]⟩] w fun e w' =>
   e = .returned (.slice (some ⟨w.heap.size, 0, none⟩) (Lib.countB s ⟨#[c]⟩ + 1) (Lib.countB s ⟨#[c]⟩ + 1)) ∧ w' = w.alloc (.cells ((Lib.splitB ⟨#[c]⟩ 0 (Lib.countB s ⟨#[c]⟩) s).map Value.string).toArray 9) := by
 have h1 : 1 ≤ (⟨#[c]⟩ : ByteArray).size := Nat.le_refl _
 have hle := Lib.countB_le ⟨#[c]⟩ h1 s.size s (Nat.le_refl _)
 have hlen := Lib.splitB_all ⟨#[c]⟩ h1 0 _ s rfl
 have c0 := Go.Proofs.Any.strings_genSplit_core { Go.Proofs.Tryz.lays146 with } info9 s ⟨#[c]⟩ 0 (-1) (Lib.countB s ⟨#[c]⟩ + 1) w hs h1 (Nat.zero_le _)
  (fun x cc hx => (Go.Proofs.Tryz.strings_Index_one x c _).mono fun e w' ⟨he, hw⟩ => ⟨by rw [he, ← Lib.index_one], hw⟩)
  ((Go.Proofs.Tryz.strings_Count_one s c w).mono fun e w' ⟨he, hw⟩ => ⟨by rw [he]; show _ = Ending.returned (Value.int .i64 ((Lib.count s.data.toList [c] : Nat) : Int)); rw [Lib.count_one]; rfl, hw⟩)
  (by decide) (by decide) (by rw [if_pos (by decide)]; omega)
 rw [Nat.add_sub_cancel, hlen] at c0
 have e2 : Lib.cellsOf (Lib.splitB ⟨#[c]⟩ 0 (Lib.countB s ⟨#[c]⟩) s) (Lib.countB s ⟨#[c]⟩ + 1) = ((Lib.splitB ⟨#[c]⟩ 0 (Lib.countB s ⟨#[c]⟩) s).map Value.string).toArray := by rw [← hlen]; exact Lib.cellsOf_full _
 rw [e2] at c0
 have HC : Hid (Calls Tryz.prog 98 #[.string s, .string ⟨#[c]⟩, .int .i64 0, .int .i64 (-1)] w fun e w' => e = .returned (.slice (some ⟨w.heap.size, 0, none⟩) (Lib.countB s ⟨#[c]⟩ + 1) (Lib.countB s ⟨#[c]⟩ + 1)) ∧ w' = w.alloc (.cells ((Lib.splitB ⟨#[c]⟩ 0 (Lib.countB s ⟨#[c]⟩) s).map Value.string).toArray 9)) := c0
 clear c0
 go_enter Tryz.func83, Tryz.ntmps83
 go_wp2_with (go_at_call 98; refine HC.out.mono ?_; rintro e w' ⟨rfl, hw⟩; rw [hw])
 go_ret
 exact ⟨rfl, rfl⟩
theorem below_bytes (w : World) (e : TypeId) (s : ByteArray) : Below w.heap.size w (Lib.bytesWorld w e s) := by
 refine ⟨?_, ?_, ?_, by rw [Lib.bytesWorld_size]; omega, fun j hj => Lib.bytesWorld_at_old w e s j hj⟩
 ·unfold Lib.bytesWorld World.freeze; rw [if_neg (by decide)]; rfl
 ·unfold Lib.bytesWorld World.freeze; rw [if_neg (by decide)]; rfl
 ·unfold Lib.bytesWorld World.freeze; rw [if_neg (by decide)]; rfl
theorem below_any (w : World) (e : TypeId) {w' : World} (h : ∃ t, w' = Lib.bytesWorld w e t) : Below w.heap.size w w' := by
 obtain ⟨t, rfl⟩ := h
 exact below_bytes w e t
end Go.Proofs.YthoipikkaelohaaGreatDoor
namespace Go.Proofs.YthoipikkaelohaaGreatDoor
open Go Go.Ma Go.RowKit Go.Proofs
theorem gErrS : Tryz.prog.globalNamed "strconv.ErrSyntax" = some 1 := by kernel_rfl
theorem gErrR : Tryz.prog.globalNamed "strconv.ErrRange" = some 2 := by kernel_rfl
def errV (te : Option TypeId) (pe : Value) : Value := match te with | none => .nilIface | some t => .iface t pe
theorem atoi_walk (s : ByteArray) (w : World) (hs : s.size ≤ 1073741824) (hG : Glob Tryz.prog w) : ∃ te : Option TypeId, (te = none ↔ ∃ v, Lib.atoiAll s.data.toList = .ok v) ∧
  Calls Tryz.prog 49 #[.string s] w fun e w' => (∃ pe, e = .returned (.tuple #[.int .i64 (digN s), errV te pe])) ∧ Below w.heap.size w w' := by
 cases ha : Lib.atoiAll s.data.toList with
 | ok v =>
  refine ⟨none, ⟨fun _ => ⟨v, rfl⟩, fun _ => rfl⟩, (Go.Proofs.Tryz.strconv_Atoi_ok s (by omega) v ha w).mono ?_⟩
  rintro e w' ⟨rfl, hw⟩
  refine ⟨⟨.bool true, by unfold digN; rw [ha]; rfl⟩, ?_⟩
  rcases hw with rfl | hw
  ·exact Below.refl _ _
  ·exact below_any _ _ hw
 | range =>
  obtain ⟨er, her, her2⟩ := hG.err _ _ (.inr rfl) gErrR
  obtain ⟨T, hT⟩ : ∃ T : TypeId, Calls Tryz.prog 49 #[.string s] w fun e w' => (∃ pe, e = .returned (.tuple #[.int .i64 (Lib.atoiSat s.data.toList), .iface T pe])) ∧ Below w.heap.size w w' :=
   ⟨_, (Go.Proofs.Tryz.strconv_Atoi_range s (by omega) ha er w her her2).mono fun e w' ⟨N, he, _, _, hb⟩ => ⟨⟨_, he⟩, hb⟩⟩
  refine ⟨some T, ⟨fun h => (by cases h), fun ⟨v, h⟩ => (by cases h)⟩, hT.mono ?_⟩
  rintro e w' ⟨⟨pe, rfl⟩, hb⟩
  exact ⟨⟨pe, by unfold digN; rw [ha]; rfl⟩, hb⟩
 | _ =>
  obtain ⟨es, hes, hes2⟩ := hG.err _ _ (.inl rfl) gErrS
  obtain ⟨T, hT⟩ : ∃ T : TypeId, Calls Tryz.prog 49 #[.string s] w fun e w' => (∃ pe, e = .returned (.tuple #[.int .i64 0, .iface T pe])) ∧ Below w.heap.size w w' :=
   ⟨_, (Go.Proofs.Tryz.strconv_Atoi_syntax s (by omega) ha es w hes hes2).mono fun e w' ⟨N, he, _, _, hb⟩ => ⟨⟨_, he⟩, hb⟩⟩
  refine ⟨some T, ⟨fun h => (by cases h), fun ⟨v, h⟩ => (by cases h)⟩, hT.mono ?_⟩
  rintro e w' ⟨⟨pe, rfl⟩, hb⟩
  exact ⟨⟨pe, by unfold digN; rw [ha]; rfl⟩, hb⟩
set_option maxRecDepth 100000 in
set_option maxHeartbeats 4000000 in
theorem digits_walk (s : ByteArray) (w : World) (hs : s.size ≤ 1073741824) (hG : Glob Tryz.prog w) :
  Calls Tryz.prog 23 #[.string s] w fun e w' => e = .returned (.tuple #[.int .i64 (digN s), .bool (digB s)]) ∧ Below w.heap.size w w' := by
 obtain ⟨te, hte, hA⟩ := atoi_walk s w hs hG
 have HP : Hid (Calls Tryz.prog 49 #[.string s] w fun e w' => (∃ pe, e = .returned (.tuple #[.int .i64 (digN s), errV te pe])) ∧ Below w.heap.size w w') := hA
 cases te with
 | some t =>
  have hB : digB s = false := by
   unfold digB
   split
   ·rename_i v hv; cases hte.2 ⟨v, hv⟩
   ·rfl
  rw [hB]
  clear hA hG hte
  simp only [errV] at HP
  generalize digN s = n at HP ⊢
  go_enter Tryz.func23, Tryz.ntmps23
  go_wp2_with (go_at_call 49; refine HP.out.mono ?_; rintro e w2 ⟨⟨pe, rfl⟩, hb2⟩)
  go_ret2
  exact ⟨rfl, hb2⟩
 | none =>
  obtain ⟨v, hv⟩ := hte.1 rfl
  have hN : digN s = v := by unfold digN; rw [hv]
  have hB : digB s = (decide (0 ≤ v) && (decide (s.size ≤ 4) && ((⟨(Lib.decDigits v.toNat).toArray⟩ : ByteArray) == s))) := by unfold digB; rw [hv]
  obtain ⟨b1, b2⟩ := Lib.atoiAll_bounds hv
  rw [hN] at HP ⊢
  simp only [errV] at HP
  rw [hB]
  clear hA hte hN hB
  by_cases h0 : 0 ≤ v
  rotate_left
  ·have z0 : decide (0 ≤ v) = false := decide_eq_false h0
   clear hG
   rw [z0]
   go_enter Tryz.func23, Tryz.ntmps23
   go_wp2_with (go_at_call 49; refine HP.out.mono ?_; rintro e w2 ⟨⟨pe, rfl⟩, hb2⟩)
   go_ret2
   exact ⟨rfl, hb2⟩
  obtain ⟨i, rfl⟩ := Int.eq_ofNat_of_zero_le h0
  obtain ⟨z, hz⟩ : ∃ z : ByteArray, z = ⟨(Lib.decDigits i).toArray⟩ := ⟨_, rfl⟩
  have HQ : Hid (∀ W, Below w.heap.size w W → Calls Tryz.prog 46 #[.int .i64 (i : Int)] W fun e w' => e = .returned (.string z) ∧ Below W.heap.size W w') := fun W hW => by rw [hz]; exact itoa_walk i (by omega) W (hG.mono hW)
  have hz' : (⟨(Lib.decDigits (i : Int).toNat).toArray⟩ : ByteArray) = z := hz.symm
  rw [hz']
  clear hz hz' hG
  go_enter Tryz.func23, Tryz.ntmps23
  have z0 : decide (0 ≤ (i : Int)) = true := decide_eq_true h0
  by_cases h4 : s.size ≤ 4
  ·have z1 : decide ((s.size : Int) ≤ 4) = true := decide_eq_true (by omega)
   go_wp2_with (first | (go_at_call 49; refine HP.out.mono ?_; rintro e w2 ⟨⟨pe, rfl⟩, hb2⟩) | (go_at_call 46; refine (HQ.out _ hb2).mono ?_; rintro e w3 ⟨rfl, hb3⟩))
   go_ret2
   refine ⟨?_, hb2.trans (hb3.mono hb2.size)⟩
   rw [decide_eq_true h4, decide_eq_true h0, Go.beq_toListBytes]
   rfl
  ·have z1 : decide ((s.size : Int) ≤ 4) = false := decide_eq_false (by omega)
   go_wp2_with (first | (go_at_call 49; refine HP.out.mono ?_; rintro e w2 ⟨⟨pe, rfl⟩, hb2⟩) | (go_at_call 46; refine (HQ.out _ hb2).mono ?_; rintro e w3 ⟨rfl, hb3⟩))
   go_ret2
   refine ⟨?_, hb2⟩
   rw [decide_eq_false h4, decide_eq_true h0]
   rfl
noncomputable def prefix_Digits_con : Con := con [.one (.fl .str)] [.one (.fl .int), .one (.fl .bool)] (fun x => prefix_Digits_t x.1)
theorem prefix_Digits_ok : TrOk Tryz.prog 23 prefix_Digits_con := con_of _ _ _ fun x y hx ρ us vals w hG hu => by
 obtain ⟨s, z⟩ := x
 obtain ⟨r1, r2, z2⟩ := y
 have hd := hu.den _ (gives_nameOf us)
 have hvals : vals = [.string s] := hd.symm
 subst hvals
 unfold prefix_Digits_t at hx
 obtain ⟨hq, hx⟩ := req_some hx
 have h1 : r1 = digN s := by injection hx with hx; injection hx with a b; exact a.symm
 have h2 : r2 = digB s := by injection hx with hx; injection hx with a b; injection b with b c; exact b.symm
 subst h1
 subst h2
 refine (digits_walk s w (Nat.le_of_ble_eq_true hq) hG).mono ?_
 rintro e w' ⟨rfl, hb⟩
 exact ⟨fun _ => Go.undef, .tup [.i .i64 (digN s), .b (digB s)], [], rfl, ⟨hb, fun j o h => by simp at h, fun i j o o' _ h => by simp at h, fun j o h => by simp at h⟩, rfl⟩
end Go.Proofs.YthoipikkaelohaaGreatDoor
namespace Go.Proofs.YthoipikkaelohaaGreatDoor
open Go Go.Ma Go.RowKit Go.Proofs
theorem lower_walk (c : Int) (w : World) : Calls Tryz.prog 112 #[.int .u8 c] w fun e w' => e = .returned (.int .u8 (bits .or .u8 c 32)) ∧ w' = w := by
 go_enter Tryz.func112, Tryz.ntmps112
 go_wp2
 go_ret
 exact ⟨rfl, rfl⟩
set_option maxHeartbeats 32000000 in
set_option maxRecDepth 100000 in
theorem hexInner (t : ByteArray) (hne : t.size ≠ 0) (hmax : t.size ≤ 9223372036854775806) (w : World) :
  Calls Tryz.prog 100 #[.string t, .int .i64 16, .int .i64 32] w fun e w' => (∃ u ev, e = .returned (.tuple #[.int .u64 u, ev]) ∧ HexEnd 111 t.data.toList 0 u ev) ∧ w' = Lib.bytesWorld w 5 t := by
 have hemp : t.toList.isEmpty = false := by
  rw [← decide_eq_emptyBytes]
  exact decide_eq_false (fun h => hne (by rw [h]; rfl))
 have hcv := Lib.run_convert_string_bytes (P := Tryz.prog) w 9 62 5 t (u := .string) Tryz.underlying9 Tryz.underlying62 Tryz.underlying5
 have hB : ∀ j, j < t.size → (Lib.bytesWorld w 5 t).cell? ⟨w.heap.size, j, none⟩ = some (.int .u8 (t.data.toList.getD j 0).toNat) := fun j hj => Lib.bytesWorld_cell w 5 t j hj
 obtain ⟨W1, hW1⟩ : ∃ W1, W1 = Lib.bytesWorld w 5 t := ⟨_, rfl⟩
 rw [← hW1] at hcv hB ⊢
 clear hW1
 obtain ⟨bs, hL⟩ : ∃ bs, bs = t.data.toList := ⟨_, rfl⟩
 have hLn : bs.length = t.size := by rw [hL, Lib.size_eq]
 rw [← hL] at hB ⊢
 clear hL
 have hmv : IntKind.u64.wrap (IntKind.u64.wrap 4294967296 - 1) = 4294967295 := by
  rw [IntKind.wrap_u64, IntKind.wrap_u64]
  decide
 go_enter Tryz.func100, Tryz.ntmps100
 go_wp2
 go_loop [12, 13, 101] (fun vu vn vi => ∃ (k acc : Nat) (a : Int), vu = .bool false ∧ vn = .int .u64 a ∧ vi = .int .i64 k ∧ k ≤ t.size ∧ Hid (a = (acc : Int) ∧ acc ≤ 4294967295 ∧ hexF bs 0 = hexF (bs.drop k) acc))
  (fun _ _ vi => t.size - (intOf vi).toNat)
 case atStart => exact ⟨0, 0, 0, rfl, rfl, rfl, by omega, rfl, by omega, rfl⟩
 case round =>
  obtain ⟨k, acc, a, rfl, rfl, rfl, hk, hh⟩ := hrel
  obtain ⟨ha, hacc, hdec⟩ := hh.out
  clear hh
  have a0 : 0 ≤ a := by omega
  have a1 : a ≤ 4294967295 := by omega
  by_cases hkn : k < t.size
  ·have hc := hB k hkn
   have hdrop : bs.drop k = bs[k]'(by omega) :: bs.drop (k + 1) := List.drop_eq_getElem_cons (by omega)
   have hget : bs.getD k 0 = bs[k]'(by omega) := by simp [List.getD, List.getElem?_eq_getElem (show k < bs.length by omega)]
   rw [hdrop] at hdec
   rw [hget] at hc
   generalize bs[k]'(by omega) = c at hc hdec
   have hc256 : c.toNat < 256 := c.toNat_lt
   clear hB hdrop hget
   rw [hexF] at hdec
   by_cases hdig : 48 ≤ c.toNat ∧ c.toNat ≤ 57
   ·obtain ⟨hd0, hd1⟩ := hdig
    have hv : hexv c = some (c.toNat - 48) := by unfold hexv; rw [if_pos ⟨hd0, hd1⟩]
    rw [hv] at hdec
    simp only at hdec
    by_cases hov : 4294967295 < acc * 16 + (c.toNat - 48)
    ·rw [if_pos hov] at hdec
     have iov : 4294967295 < a * 16 + ((c.toNat : Int) - 48) := by omega
     clear hacc hov ha hv
     go_wp2
     go_ret2
     exact ⟨⟨_, _, rfl, .bad hdec (.inr rfl)⟩, rfl⟩
    ·rw [if_neg hov] at hdec
     have HN : Hid (a * 16 + ((c.toNat : Int) - 48) = ((acc * 16 + (c.toNat - 48) : Nat) : Int) ∧ acc * 16 + (c.toNat - 48) ≤ 4294967295 ∧ hexF bs 0 = hexF (bs.drop (k + 1)) (acc * 16 + (c.toNat - 48))) := Lib.hid ⟨by omega, by omega, hdec⟩
     have iov : a * 16 + ((c.toNat : Int) - 48) ≤ 4294967295 := by omega
     clear hacc hov hdec ha hv
     go_wp2
     refine ⟨⟨k + 1, acc * 16 + (c.toNat - 48), a * 16 + ((c.toNat : Int) - 48), rfl, (by first | rfl | (congr 1; omega)), (by first | rfl | (congr 1; omega)), by omega, HN⟩, by simp [intOf]; omega⟩
   ·have hv0 := bits_lo_u8 .or (c.toNat : Int) 32
    have hv1 := bits_hi_u8 .or (c.toNat : Int) 32
    have hne95 : 97 ≤ bits .or .u8 (c.toNat : Int) 32 → bits .or .u8 (c.toNat : Int) 32 ≤ 122 → ¬ (c.toNat : Int) = 95 := fun h1 h2 h => by
     rw [h] at h2
     exact absurd h2 (by decide)
    have hb95 : (c.toNat : Int) = 95 → bits .or .u8 (c.toNat : Int) 32 = 127 := fun h => by rw [h]; decide
    have e95 : bits .or .u8 95 32 = 127 := by decide
    have HL : Hid (∀ W, Calls Tryz.prog 112 #[.int .u8 (c.toNat : Int)] W fun e w' => e = .returned (.int .u8 (bits .or .u8 (c.toNat : Int) 32)) ∧ w' = W) := fun W => lower_walk _ W
    have hvv : hexv c = if 97 ≤ bits .or .u8 (c.toNat : Int) 32 ∧ bits .or .u8 (c.toNat : Int) 32 ≤ 102 then some ((bits .or .u8 (c.toNat : Int) 32).toNat - 87) else none := by
     unfold hexv lowQ
     rw [if_neg hdig]
    rw [hvv] at hdec
    clear hvv
    generalize bits .or .u8 (c.toNat : Int) 32 = L at HL hv0 hv1 hne95 hb95 hdec
    by_cases hlet : 97 ≤ L ∧ L ≤ 102
    ·rw [if_pos hlet] at hdec
     simp only at hdec
     obtain ⟨l0, l1⟩ := hlet
     have l2 : L ≤ 122 := by omega
     have n95 := hne95 l0 l2
     by_cases hov : 4294967295 < acc * 16 + (L.toNat - 87)
     ·rw [if_pos hov] at hdec
      have iov : 4294967295 < a * 16 + (L - 87) := by omega
      clear hacc hov ha hne95 hb95 e95
      go_wp2_with (go_at_call 112; refine (HL.out _).mono ?_; rintro e w' ⟨rfl, rfl⟩)
      all_goals go_ret2
      all_goals exact ⟨⟨_, _, rfl, .bad hdec (.inr rfl)⟩, rfl⟩
     ·rw [if_neg hov] at hdec
      have HN : Hid (a * 16 + (L - 97 + 10) = ((acc * 16 + (L.toNat - 87) : Nat) : Int) ∧ acc * 16 + (L.toNat - 87) ≤ 4294967295 ∧ hexF bs 0 = hexF (bs.drop (k + 1)) (acc * 16 + (L.toNat - 87))) := Lib.hid ⟨by omega, by omega, hdec⟩
      have iov : a * 16 + (L - 87) ≤ 4294967295 := by omega
      clear hacc hov hdec ha hne95 hb95 e95
      go_wp2_with (go_at_call 112; refine (HL.out _).mono ?_; rintro e w' ⟨rfl, rfl⟩)
      all_goals exact ⟨⟨k + 1, acc * 16 + (L.toNat - 87), a * 16 + (L - 97 + 10), rfl, (by first | rfl | (congr 1; omega)), (by first | rfl | (congr 1; omega)), by omega, HN⟩, by simp [intOf]; omega⟩
    ·rw [if_neg hlet] at hdec
     simp only at hdec
     clear hacc ha
     by_cases h122 : 97 ≤ L ∧ L ≤ 122
     ·obtain ⟨l0, l2⟩ := h122
      have n95 := hne95 l0 l2
      have l3 : 103 ≤ L := by omega
      clear hne95 hlet hb95 e95
      go_wp2_with (go_at_call 112; refine (HL.out _).mono ?_; rintro e w' ⟨rfl, rfl⟩)
      all_goals go_ret2
      all_goals exact ⟨⟨_, _, rfl, .bad hdec (.inl rfl)⟩, rfl⟩
     ·clear hne95 hlet
      by_cases h95 : (c.toNat : Int) = 95
      ·clear hb95 h122 hv0 hv1
       clear HL
       clear L
       go_wp2_with (go_at_call 112; refine (lower_walk 95 _).mono ?_; rintro e w' ⟨rfl, rfl⟩)
       all_goals go_ret2
       all_goals exact ⟨⟨_, _, rfl, .bad hdec (.inl rfl)⟩, rfl⟩
      ·clear hb95 e95
       by_cases h97 : 97 ≤ L
       ·have l3 : 122 < L := by omega
        clear h122
        go_wp2_with (go_at_call 112; refine (HL.out _).mono ?_; rintro e w' ⟨rfl, rfl⟩)
        all_goals go_ret2
        all_goals exact ⟨⟨_, _, rfl, .bad hdec (.inl rfl)⟩, rfl⟩
       ·clear h122
        go_wp2_with (go_at_call 112; refine (HL.out _).mono ?_; rintro e w' ⟨rfl, rfl⟩)
        all_goals go_ret2
        all_goals exact ⟨⟨_, _, rfl, .bad hdec (.inl rfl)⟩, rfl⟩
  ·have hkk : k = t.size := by omega
   subst hkk
   have hF : hexF (bs.drop t.size) acc = some acc := by rw [List.drop_eq_nil_of_le (by omega)]; rfl
   rw [hF] at hdec
   subst ha
   clear hacc hF a0 a1
   go_wp2
   go_ret2
   exact ⟨⟨_, _, rfl, .ok hdec⟩, rfl⟩
def NumOut (o : Option Nat) (u : Int) (ev : Value) : Prop := match o with
 | some n => u = (n : Int) ∧ ev = .nilIface
 | none => ∃ te pe, ev = .iface te pe
def NumEnd (o : Option Nat) (e : Ending) : Prop := ∃ u ev, e = .returned (.tuple #[.int .u64 u, ev]) ∧ NumOut o u ev
theorem numEnd_ok (n : Nat) : NumEnd (some n) (.returned (.tuple #[.int .u64 (n : Int), .nilIface])) := ⟨_, _, rfl, rfl, rfl⟩
theorem numEnd_bad (u : Int) (te : TypeId) (pe : Value) : NumEnd none (.returned (.tuple #[.int .u64 u, .iface te pe])) := ⟨_, _, rfl, _, _, rfl⟩
set_option maxRecDepth 100000 in
theorem hexEmpty (w : World) : Calls Tryz.prog 100 #[.string ByteArray.empty, .int .i64 16, .int .i64 32] w fun e w' => e = .returned (.tuple #[.int .u64 0, .iface 111 (.int .i64 2)]) ∧ w' = w := by
 go_enter Tryz.func100, Tryz.ntmps100
 go_wp2
 go_ret2
 exact ⟨rfl, rfl⟩
def InnerEnd (o : Option Nat) (u : Int) (ev : Value) : Prop := match o with
 | some n => u = (n : Int) ∧ ev = .nilIface
 | none => ev = .iface 111 (.int .i64 2) ∨ ev = .iface 111 (.int .i64 1)
theorem hexAll (s : ByteArray) (hmax : s.size ≤ 9223372036854775806) (w : World) :
  Calls Tryz.prog 100 #[.string s, .int .i64 16, .int .i64 32] w fun e w' => (∃ u ev, e = .returned (.tuple #[.int .u64 u, ev]) ∧ InnerEnd (hexU s) u ev) ∧ Below w.heap.size w w' := by
 by_cases h0 : s.size = 0
 ·have hs : s = ByteArray.empty := by
   cases s with | mk a =>
   have : a = #[] := Array.eq_empty_of_size_eq_zero h0
   rw [this]; rfl
  subst hs
  refine (hexEmpty w).mono ?_
  rintro e w' ⟨rfl, rfl⟩
  exact ⟨⟨_, _, rfl, .inl rfl⟩, Below.refl _ _⟩
 ·refine (hexInner s h0 hmax w).mono ?_
  rintro e w' ⟨⟨u, ev, rfl, hh⟩, rfl⟩
  refine ⟨⟨u, ev, rfl, ?_⟩, Lib.bytesWorld_below _ _ _⟩
  unfold hexU
  rw [if_neg h0]
  cases hh with
  | ok h hu he => rw [h]; exact ⟨hu, he⟩
  | bad h he => rw [h]; exact he
theorem gErrSyntax : Tryz.prog.globalNamed "strconv.ErrSyntax" = some 1 := by kernel_rfl
theorem gErrRange : Tryz.prog.globalNamed "strconv.ErrRange" = some 2 := by kernel_rfl
set_option maxHeartbeats 4000000 in
set_option maxRecDepth 100000 in
theorem hexPublic (s : ByteArray) (hlim : s.size ≤ 281474976710656) (w : World) (hG : Glob Tryz.prog w) :
  Calls Tryz.prog 99 #[.string s, .int .i64 16, .int .i64 32] w fun e w' => NumEnd (hexU s) e ∧ Below w.heap.size w w' := by
 obtain ⟨es, hes, hes2⟩ := hG.err _ _ (.inl rfl) gErrSyntax
 obtain ⟨er, her, her2⟩ := hG.err _ _ (.inr rfl) gErrRange
 have hI := hexAll s (by omega) w
 go_enter Tryz.func99, Tryz.ntmps99
 go_wp2_with (go_at_call 100; refine hI.mono ?_)
 rintro e W1 ⟨⟨u, ev, rfl, hh⟩, hb1⟩
 have hes1 := cell_stays hb1 hes
 have her1 := cell_stays hb1 her
 cases hx : hexU s with
 | some n =>
  rw [hx] at hh
  obtain ⟨rfl, rfl⟩ := hh
  go_wp2
  go_ret2
  exact ⟨by rw [hx]; exact numEnd_ok n, hb1⟩
 | none =>
  rw [hx] at hh
  rcases hh with rfl | rfl
  ·go_wp2_with (go_at_call 67; refine (AnyPu.strconv_toError_syntax (P := Tryz.prog) { Go.Proofs.Tryz.laysPu14 with } ⟨#[80, 97, 114, 115, 101, 85, 105, 110, 116]⟩ s 16 32 es _ hlim hes1 hes2).mono ?_)
   rintro e W2 ⟨N, rfl, h1, h2, h3⟩
   go_wp2
   go_ret2
   exact ⟨by rw [hx]; exact numEnd_bad _ _ _, hb1.trans (h3.mono hb1.size)⟩
  ·go_wp2_with (go_at_call 67; refine (AnyPu.strconv_toError_range (P := Tryz.prog) { Go.Proofs.Tryz.laysPu14 with } ⟨#[80, 97, 114, 115, 101, 85, 105, 110, 116]⟩ s 16 32 er _ hlim her1 her2).mono ?_)
   rintro e W2 ⟨N, rfl, h1, h2, h3⟩
   go_wp2
   go_ret2
   exact ⟨by rw [hx]; exact numEnd_bad _ _ _, hb1.trans (h3.mono hb1.size)⟩
theorem decPublic (s : ByteArray) (hlim : s.size ≤ 281474976710656) (w : World) (hG : Glob Tryz.prog w) :
  Calls Tryz.prog 99 #[.string s, .int .i64 10, .int .i64 32] w fun e w' => NumEnd (decU s) e ∧ Below w.heap.size w w' := by
 obtain ⟨es, hes, hes2⟩ := hG.err _ _ (.inl rfl) gErrSyntax
 obtain ⟨er, her, her2⟩ := hG.err _ _ (.inr rfl) gErrRange
 unfold decU
 cases hx : Lib.parseUintB 32 s.data.toList with
 | ok u =>
  refine (Go.Proofs.Tryz.strconv_ParseUint_10_at32_ok s (by omega) u hx w).mono ?_
  rintro e w' ⟨rfl, hw⟩
  exact ⟨numEnd_ok u, by rcases hw with rfl | rfl; exact Below.refl _ _; exact Lib.bytesWorld_below _ _ _⟩
 | range =>
  refine (Go.Proofs.Tryz.strconv_ParseUint_10_at32_range s hlim hx er w her her2).mono ?_
  rintro e w' ⟨N, rfl, _, _, hb⟩
  exact ⟨numEnd_bad _ _ _, hb⟩
 | _ =>
  refine (Go.Proofs.Tryz.strconv_ParseUint_10_at32_syntax s hlim hx es w hes hes2).mono ?_
  rintro e w' ⟨N, rfl, _, _, hb⟩
  exact ⟨numEnd_bad _ _ _, hb⟩
end Go.Proofs.YthoipikkaelohaaGreatDoor
namespace Go.Proofs.YthoipikkaelohaaGreatDoor
open Go Go.Ma Go.RowKit Go.Proofs
def digits36 : ByteArray := ⟨#[48, 49, 50, 51, 52, 53, 54, 55, 56, 57, 97, 98, 99, 100, 101, 102, 103, 104, 105, 106, 107, 108, 109, 110, 111, 112, 113, 114, 115, 116, 117, 118, 119, 120, 121, 122]⟩
theorem idx36 {P : Program} (t : TypeId) (ht : P.underlying t = some .string) (k : IntKind) (z : Int) (i : Nat) (hz : z = (i : Int)) (hi : i < 16) (w : World) :
  (Instr.index t (.string digits36) (.int k z)).run P w = .ok (.int .u8 ((hexD i).toNat : Int)) w := by
 subst hz
 rw [run_index_string w t digits36 k _ ht, dif_pos ⟨by omega, by show (i : Int) < 36; omega⟩]
 have e : ((i : Int)).toNat = i := by omega
 simp only [e]
 have : i = 0 ∨ i = 1 ∨ i = 2 ∨ i = 3 ∨ i = 4 ∨ i = 5 ∨ i = 6 ∨ i = 7 ∨ i = 8 ∨ i = 9 ∨ i = 10 ∨ i = 11 ∨ i = 12 ∨ i = 13 ∨ i = 14 ∨ i = 15 := by omega
 rcases this with rfl | rfl | rfl | rfl | rfl | rfl | rfl | rfl | rfl | rfl | rfl | rfl | rfl | rfl | rfl | rfl <;> rfl
theorem pow2_walk (w : World) : Calls Tryz.prog 106 #[.int .i64 16] w fun e w' => e = .returned (.bool true) ∧ w' = w := by
 go_enter Tryz.func106, Tryz.ntmps106
 go_wp2
 go_ret
 exact ⟨by first | rfl | decide, rfl⟩
theorem gTab : Tryz.prog.globalNamed "math/bits.deBruijn64tab" = some 5 := by kernel_rfl
theorem key16 : IntKind.u64.wrap (bits BinOp.and IntKind.u64 16 (IntKind.u64.wrap (-16)) * 285870213051353865) / 288230376151711744 = 15 := by decide +kernel
set_option maxRecDepth 100000 in
theorem tz64_walk (w : World) (hcell : w.cell? ⟨5, 15, none⟩ = some (.int .u8 4)) :
  Calls Tryz.prog 115 #[.int .u64 16] w fun e w' => e = .returned (.int .i64 4) ∧ w' = w := by
 have key := key16
 go_enter Tryz.func115, Tryz.ntmps115
 go_wp2_with (simp only [key])
 go_ret
 exact ⟨rfl, rfl⟩
set_option maxRecDepth 100000 in
theorem tz_walk (w : World) (hcell : w.cell? ⟨5, 15, none⟩ = some (.int .u8 4)) :
  Calls Tryz.prog 107 #[.int .u64 16] w fun e w' => e = .returned (.int .i64 4) ∧ w' = w := by
 go_enter Tryz.func107, Tryz.ntmps107
 go_wp2_with (go_at_call 115; refine (tz64_walk _ hcell).mono ?_; rintro e w' ⟨rfl, rfl⟩)
 go_ret
 exact ⟨rfl, rfl⟩
def encB (b : UInt8) : Value := .int .u8 (b.toNat : Int)
theorem pre_cell {w : World} {N m : Nat} {z : Value} {s : List Value} {T : TypeId} (h : w.heap[N]? = some (Go.Obj.cells (List.replicate (m + 1) z ++ s).toArray T (0, 0))) :
  w.cell? ⟨N, m, none⟩ = some z ∧ w.frozen? ⟨N, m, none⟩ = false := by
 constructor
 ·simp [World.cell?, h, List.getElem?_append_left]
 ·simp [World.frozen?, h]
theorem pre_set {w : World} {N m : Nat} {z v : Value} {s : List Value} {T : TypeId} (h : w.heap[N]? = some (Go.Obj.cells (List.replicate (m + 1) z ++ s).toArray T (0, 0))) :
  (w.setCell ⟨N, m, none⟩ v).heap[N]? = some (Go.Obj.cells (List.replicate m z ++ v :: s).toArray T (0, 0)) := by
 rw [setCell_heap w N m v _ T (0, 0) h]
 congr 2
 apply Array.ext'
 simp [List.replicate_succ', List.set_append]
theorem suf_cell {w : World} {N i : Nat} {z : Value} {s : List UInt8} {T : TypeId} (h : w.heap[N]? = some (Go.Obj.cells (List.replicate i z ++ s.map encB).toArray T (0, 0))) (j : Nat) (hj : j < s.length) :
  w.cell? ((⟨N, i, none⟩ : Addr).add j) = some (.int .u8 (s[j].toNat : Int)) := by
 rw [Lib.add_plain]
 simp [World.cell?, h, List.getElem?_append_right, hj, encB]
theorem slice65 (m : Nat) (hm : m < 65) (b : Nat) (W : World) : (Instr.sliceAt 135 (.pointer (some ⟨b, 0, none⟩)) (some (.int .i64 (m : Int))) none none).run Tryz.prog W = .ok (.slice (some ⟨b, m, none⟩) (65 - m) (65 - m)) W := by
 have hal : Tryz.prog.arrayLen 135 = 65 := by simp [Program.arrayLen, Tryz.underlying135]
 rw [run_sliceAt_array_l W 135 ⟨b, 0, none⟩ (by simp [Program.arrayLen, Program.elem, Tryz.underlying135]) .i64 (m : Int) (by omega) (by rw [hal]; omega), hal]
 go_simp
 omega
set_option maxHeartbeats 8000000 in
set_option maxRecDepth 100000 in
theorem bits_hex (n : Nat) (hn : n < 65536) (w : World) (hG : Glob Tryz.prog w) :
  Calls Tryz.prog 93 #[.slice none 0 0, .int .u64 (n : Int), .int .i64 16, .bool false, .bool false] w fun e w' => e = .returned (.tuple #[.slice none 0 0, .string ⟨(hex4 n).toArray⟩]) ∧ Below w.heap.size w w' := by
 obtain ⟨tt, zz, htab⟩ := hG.ctz _ gTab
 have hcell : w.cell? ⟨5, 15, none⟩ = some (.int .u8 4) := by
  unfold World.cell?
  rw [htab]
  rfl
 have HT : Hid (∀ W, Below w.heap.size w W → Calls Tryz.prog 107 #[.int .u64 16] W fun e w' => e = .returned (.int .i64 4) ∧ w' = W) := fun W hb => tz_walk W (cell_stays hb hcell)
 clear hcell htab
 go_enter Tryz.func93, Tryz.ntmps93
 go_wp2_with (first | (go_at_call 106; refine (pow2_walk _).mono ?_; rintro e w' ⟨rfl, rfl⟩) | (go_at_call 107; refine (HT.out _ ((Below.refl _ w).alloc (Nat.le_refl _) _)).mono ?_; rintro e w' ⟨rfl, rfl⟩))
 go_name_world W0 hW0
 have hN0 : W0.heap[w.heap.size]? = some (.cells (List.replicate 65 (Value.int .u8 0) ++ ([] : List UInt8).map encB).toArray 135 (0, 0)) := by rw [← hW0]; exact heap_alloc_new w _
 have hb0 : Below w.heap.size w W0 := by rw [← hW0]; exact (Below.refl _ w).alloc (Nat.le_refl _) _
 clear hW0 HT
 go_loopw [1, 13] (fun vu vi wr => ∃ (u i : Nat) (suf : List UInt8), vu = .int .u64 (u : Int) ∧ vi = .int .i64 (i : Int) ∧ Hid (hex4 u ++ suf = hex4 n ∧ suf.length + i = 65 ∧ u < 16 ^ (i - 61)) ∧ 62 ≤ i ∧ i ≤ 65 ∧ Hid (wr.heap[w.heap.size]? = some (.cells (List.replicate i (Value.int .u8 0) ++ suf.map encB).toArray 135 (0, 0))) ∧ Below w.heap.size w wr) (fun _ vi _ => (intOf vi).toNat)
 case atStart => exact ⟨n, 65, [], rfl, rfl, Lib.hid ⟨List.append_nil _, rfl, hn⟩, by omega, by omega, Lib.hid hN0, hb0⟩
 case round =>
  clear hN0 hb0
  obtain ⟨u, i, suf, rfl, rfl, HS, hi0, hi1, HH, hbw⟩ := hrel
  obtain ⟨e1, e2, e3⟩ := HS.out
  obtain ⟨m, rfl⟩ : ∃ m, i = m + 1 := ⟨i - 1, by omega⟩
  have hh := HH.out
  obtain ⟨hc, hf⟩ := pre_cell hh
  clear hh
  have hu6 : u < 65536 := Nat.lt_of_lt_of_le e3 (by have : 16 ^ (m + 1 - 61) ≤ 16 ^ 4 := Nat.pow_le_pow_right (by omega) (by omega); omega)
  have iu0 : 0 ≤ (u : Int) := by omega
  have iu1 : (u : Int) < 65536 := by omega
  by_cases h16 : 16 ≤ u
  ·have hand : bits .and .u64 (u : Int) 15 = ((u % 16 : Nat) : Int) := by
    have := bits_and_u64_nat u 15 (by omega) (by omega)
    rw [show (15 : Int) = ((15 : Nat) : Int) from rfl, this, show (15 : Nat) = 2 ^ 4 - 1 from rfl, Nat.and_two_pow_sub_one_eq_mod]
   have hX : ∀ W, (Instr.index 9 (.string ⟨#[48, 49, 50, 51, 52, 53, 54, 55, 56, 57, 97, 98, 99, 100, 101, 102, 103, 104, 105, 106, 107, 108, 109, 110, 111, 112, 113, 114, 115, 116, 117, 118, 119, 120, 121, 122]⟩) (.int .u64 (bits .and .u64 (u : Int) 15))).run Tryz.prog W = .ok (.int .u8 ((hexD (u % 16)).toNat : Int)) W := idx36 9 Tryz.underlying9 .u64 _ _ hand (by omega)
   have hge : (16 : Int) ≤ (u : Int) := by omega
   have hm62 : 62 ≤ m := by
    rcases Nat.lt_or_ge m 62 with h | h
    ·have : m = 61 := by omega
     subst this
     have : u < 16 := e3
     omega
    ·exact h
   clear hand
   go_wp2
   refine ⟨⟨u / 16, m, hexD (u % 16) :: suf, by go_num, rfl, Lib.hid ⟨by rw [← e1, hex4_step u h16 hu6, List.append_assoc]; rfl, by simp only [List.length_cons]; omega, ?_⟩, hm62, by omega, Lib.hid (pre_set HH.out), hbw.setCell (Nat.le_refl _) _⟩, by simp [intOf]⟩
   rw [show m + 1 - 61 = (m - 61) + 1 by omega, Nat.pow_succ] at e3
   omega
  ·have hX : ∀ W, (Instr.index 9 (.string ⟨#[48, 49, 50, 51, 52, 53, 54, 55, 56, 57, 97, 98, 99, 100, 101, 102, 103, 104, 105, 106, 107, 108, 109, 110, 111, 112, 113, 114, 115, 116, 117, 118, 119, 120, 121, 122]⟩) (.int .u64 (u : Int))).run Tryz.prog W = .ok (.int .u8 ((hexD u).toNat : Int)) W := idx36 9 Tryz.underlying9 .u64 _ _ rfl (by omega)
   have hlt : (u : Int) < 16 := by omega
   obtain ⟨q, hq⟩ : ∃ q, q = 65 - m := ⟨_, rfl⟩
   have hsl : ∀ W, (Instr.sliceAt 135 (.pointer (some ⟨w.heap.size, 0, none⟩)) (some (.int .i64 (m : Int))) none none).run Tryz.prog W = .ok (.slice (some ⟨w.heap.size, m, none⟩) q q) W := fun W => by rw [hq]; exact slice65 m (by omega) _ W
   have hcv : (convert 62 9 (.slice (some ⟨w.heap.size, m, none⟩) q q)).run Tryz.prog (wr.setCell ⟨w.heap.size, m, none⟩ (.int .u8 ((hexD u).toNat : Int))) = .ok (.string ⟨(hex4 n).toArray⟩) (wr.setCell ⟨w.heap.size, m, none⟩ (.int .u8 ((hexD u).toNat : Int))) := by
    have hs : wr.setCell ⟨w.heap.size, m, none⟩ (.int .u8 ((hexD u).toNat : Int)) = wr.setCell ⟨w.heap.size, m, none⟩ (encB (hexD u)) := rfl
    have h := run_convert_bytes_back (P := Tryz.prog) (wr.setCell ⟨w.heap.size, m, none⟩ (encB (hexD u))) 62 9 5 ⟨w.heap.size, m, none⟩ q (hexD u :: suf) Tryz.underlying62 Tryz.underlying5 Tryz.underlying9 (fun j hj => suf_cell (s := hexD u :: suf) (pre_set HH.out) j hj)
    have hl : (hexD u :: suf).length = q := by rw [hq]; simp only [List.length_cons]; omega
    rw [hl] at h
    have h6 : hex4 n = hexD u :: suf := by rw [← e1]; unfold hex4; rw [if_pos (by omega)]; rfl
    rw [hs, h6]
    exact h
   have hbz := hbw.setCell (p := ⟨w.heap.size, m, none⟩) (Nat.le_refl _) (.int .u8 ((hexD u).toNat : Int))
   clear e1 e2 e3 HS HH hG hbw hq hu6 iu0 iu1 h16
   go_wp2
   go_ret2
   exact ⟨rfl, hbz⟩
set_option maxRecDepth 100000 in
theorem uint_hex (n : Nat) (hn : n < 65536) (w : World) (hG : Glob Tryz.prog w) :
  Calls Tryz.prog 70 #[.int .u64 (n : Int), .int .i64 16] w fun e w' => e = .returned (.string ⟨(hex4 n).toArray⟩) ∧ Below w.heap.size w w' := by
 have HB := Lib.hid (bits_hex n hn w hG)
 clear hG hn
 go_enter Tryz.func70, Tryz.ntmps70
 go_wp2_with (go_at_call 93; refine HB.out.mono ?_; rintro e w' ⟨rfl, hb⟩)
 go_ret
 exact ⟨rfl, hb⟩
theorem tab_pow {w : World} (hG : Glob Tryz.prog w) : Lib.TabIs Tryz.prog w "internal/strconv.uint64pow10" .u64 Lib.pow10Tab := by
 have hg : Tryz.prog.globalNamed "internal/strconv.uint64pow10" = some 3 := by kernel_rfl
 obtain ⟨t, z, h⟩ := hG.pow _ hg
 have e : pow10s = Lib.pow10Tab := by decide +kernel
 unfold Lib.TabIs World.var?
 simp [hg, h, e]
set_option maxHeartbeats 8000000 in
set_option maxRecDepth 100000 in
theorem uint_dec (u : Nat) (h1 : u < 256) (w : World) (hG : Glob Tryz.prog w) :
  Calls Tryz.prog 70 #[.int .u64 (u : Int), .int .i64 10] w fun e w' => e = .returned (.string ⟨(Lib.decDigits u).toArray⟩) ∧ Below w.heap.size w w' := by
 by_cases hs : u < 100
 ·have iu : (u : Int) < 100 := by omega
  go_enter Tryz.func70, Tryz.ntmps70
  go_wp2_with (go_at_call 90; refine (Go.Proofs.Tryz.internal_strconv_small u hs _).mono ?_; rintro e w' ⟨rfl, rfl⟩)
  go_ret
  exact ⟨rfl, Below.refl _ _⟩
 ·have hu : 100 ≤ u := by omega
  have htab := tab_pow hG
  have hu1 : 1 ≤ u := by omega
  have hu64 : u < 18446744073709551616 := by omega
  have hnd20 : Lib.nDigits u ≤ 20 := by have := Lib.numDigits_eq u hu1 hu64; split at this <;> omega
  have hal : Tryz.prog.arrayLen 117 = 24 := by simp [Program.arrayLen, Tryz.underlying117]
  have hsl : ∀ W, (Instr.sliceAt 117 (.pointer (some ⟨w.heap.size, 0, none⟩)) none (some (.int .i64 (Lib.nDigits u : Int))) none).run Tryz.prog W = .ok (.slice (some ⟨w.heap.size, 0, none⟩) (Lib.nDigits u) 24) W := fun W => by
   rw [run_sliceAt_array_h W 117 ⟨w.heap.size, 0, none⟩ (by simp [Program.arrayLen, Program.elem, Tryz.underlying117]) .i64 (Lib.nDigits u : Int) (by omega) (by rw [hal]; omega)]
   go_simp
  have hH0 := Lib.holds_zero0 w 117 (Lib.nDigits u) (by omega)
  have hfmt := Go.Proofs.Tryz.internal_strconv_formatBase10 w.heap.size 0 24 u (Array.replicate (Lib.nDigits u) 0) (w.alloc (.cells Lib.zeros24 117)) hH0 (by rw [Array.size_replicate]; exact Lib.lt_pow_nDigits u) hu64 (by rw [Array.size_replicate]; omega)
  rw [Array.size_replicate] at hfmt
  have HH0 := Lib.hid hH0
  have iu : (100 : Int) ≤ (u : Int) := by omega
  clear hH0 hal hs h1 hG
  go_enter Tryz.func70, Tryz.ntmps70
  go_wp2_with (go_at_call 91; refine (Go.Proofs.Tryz.internal_strconv_numDigits u hu1 hu64 _ (Lib.tabIs_alloc htab _)).mono ?_; rintro e w' ⟨rfl, rfl⟩)
  go_at_call 92
  refine hfmt.mono ?_
  rintro e w' ⟨rfl, k, v', dk, rfl, hF⟩
  have hcv : (convert 62 9 (.slice (some ⟨w.heap.size, 0, none⟩) (Lib.nDigits u) 24)).run Tryz.prog ((Sort.putRow (fun (b : UInt8) => Value.int .u8 (b.toNat : Int)) (w.alloc (.cells Lib.zeros24 117)) w.heap.size 0 dk).drewN k) = .ok (.string ⟨(Lib.decDigits u).toArray⟩) ((Sort.putRow (fun (b : UInt8) => Value.int .u8 (b.toNat : Int)) (w.alloc (.cells Lib.zeros24 117)) w.heap.size 0 dk).drewN k) := by
   have h := run_convert_bytes_back (P := Tryz.prog) ((Sort.putRow (fun (b : UInt8) => Value.int .u8 (b.toNat : Int)) (w.alloc (.cells Lib.zeros24 117)) w.heap.size 0 dk).drewN k) 62 9 5 ⟨w.heap.size, 0, none⟩ 24 (Lib.decDigits u) Tryz.underlying62 Tryz.underlying5 Tryz.underlying9 (fun j hj => by
    rw [Lib.row_is_numeral hF j hj, Lib.add_plain, World.cell?_drewN]
    exact Sort.cell?_putRow (fun (b : UInt8) => Value.int .u8 (b.toNat : Int)) _ w.heap.size 0 _ dk HH0.out (by rw [hF.size, Array.size_replicate]) j (by rw [hF.size]; rw [Lib.decDigits_length] at hj; exact hj))
   rw [Lib.decDigits_length] at h
   exact h
  obtain ⟨os, eo⟩ := Lib.fin_at w (.cells Lib.zeros24 117) dk k 0
  have hnx : Below w.heap.size w ((Sort.putRow (fun (b : UInt8) => Value.int .u8 (b.toNat : Int)) (w.alloc (.cells Lib.zeros24 117)) w.heap.size 0 dk).drewN k) := by rw [eo]; exact Lib.below_grow w.heap.size w (Nat.le_refl _) k os
  generalize (Sort.putRow (fun (b : UInt8) => Value.int .u8 (b.toNat : Int)) (w.alloc (.cells Lib.zeros24 117)) w.heap.size 0 dk).drewN k = W2 at hcv hnx ⊢
  clear eo HH0 hfmt
  go_wp2
  go_ret
  exact ⟨rfl, hnx⟩
set_option maxRecDepth 100000 in
theorem format_walk (n b : Int) (r : ByteArray) (w : World) (H : Calls Tryz.prog 70 #[.int .u64 n, .int .i64 b] w fun e w' => e = .returned (.string r) ∧ Below w.heap.size w w') :
  Calls Tryz.prog 56 #[.int .u64 n, .int .i64 b] w fun e w' => e = .returned (.string r) ∧ Below w.heap.size w w' := by
 have HB := Lib.hid H
 clear H
 go_enter Tryz.func56, Tryz.ntmps56
 go_wp2_with (go_at_call 70; refine HB.out.mono ?_; rintro e w' ⟨rfl, hb⟩)
 go_ret
 exact ⟨rfl, hb⟩
noncomputable def strconv_FormatUint_con : Con := con [.one (.fl .u64), .one (.fl .int)] [.one (.fl .str)] (fun x => zq8 x.1 x.2.1)
theorem format_end {n b : Int} {r : ByteArray} {w : World} (h : Calls Tryz.prog 56 #[.int .u64 n, .int .i64 b] w fun e w' => e = .returned (.string r) ∧ Below w.heap.size w w') :
  Calls Tryz.prog 56 #[.int .u64 n, .int .i64 b] w fun e w' => ∃ ρc r' m', e = .returned (den ρc r') ∧ RelM w ρc m' w' ∧ resR [.one (.fl .str)] r' m' = some (r, ()) := by
 refine h.mono ?_
 rintro e w' ⟨rfl, hb⟩
 exact ⟨fun _ => Go.undef, .s r, [], rfl, ⟨hb, fun j o h => by simp at h, fun i j o o' _ h => by simp at h, fun j o h => by simp at h⟩, rfl⟩
theorem strconv_FormatUint_ok : TrOk Tryz.prog 56 strconv_FormatUint_con := con_of _ _ _ fun x y hx ρ us vals w hG hu => by
 obtain ⟨n, b, z⟩ := x
 have hd := hu.den _ (gives_nameOf us)
 have hvals : vals = [.int .u64 n, .int .i64 b] := hd.symm
 subst hvals
 unfold zq8 at hx
 split at hx
 ·rename_i hb
  simp only at hb
  subst hb
  obtain ⟨hq, hx⟩ := req_some hx
  simp only [Bool.and_eq_true, decide_eq_true_eq] at hq
  injection hx with hx
  subst hx
  obtain ⟨u, rfl⟩ := Int.eq_ofNat_of_zero_le hq.1
  exact format_end (format_walk _ _ _ w (uint_hex u (by omega) w hG))
 ·obtain ⟨hq, hx⟩ := req_some hx
  simp only [Bool.and_eq_true, decide_eq_true_eq] at hq
  obtain ⟨rfl, h0, h1⟩ := hq
  injection hx with hx
  subst hx
  obtain ⟨u, rfl⟩ := Int.eq_ofNat_of_zero_le h0
  have e : (dec3 (u : Int).toNat) = Lib.decDigits u := (dec3_eq u (by omega)).symm
  rw [e]
  exact format_end (format_walk _ _ _ w (uint_dec u (by omega) w hG))
end Go.Proofs.YthoipikkaelohaaGreatDoor
