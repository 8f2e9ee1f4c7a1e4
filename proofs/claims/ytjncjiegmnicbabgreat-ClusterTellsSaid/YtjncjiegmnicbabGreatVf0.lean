/-
  Parts: MaA MaB MaC MaD.
-/
import Derived.WalkKit
import Derived.Deep.Quiet
import Derived.Deep.Draws
import Derived.KernelRfl
import Derived.Still
set_option linter.unusedVariables false
set_option linter.unusedSimpArgs false
open List renaming getElem?_eq_getElem → zc0, getElem?_eq_some_iff → zc1, getD_eq_getElem?_getD → zc3, mem_of_getElem? → zc5, getElem?_append_left → zc6, getElem?_append_right → zc12, getElem?_take → zc14, getElem?_set_ne → zc15, all_eq_true → zc17, length_take → zc20, length_cons → zc21, getElem?_set_self → zc23, getElem?_append → zc29, mem_iff_getElem? → zc30, getElem?_map → zc31, getElem?_drop → zc39, length_set → zc43
open Option.some renaming injEq → zc2
open Bool renaming and_eq_true → zc4, false_eq_true → zc16
open Option renaming map_eq_some_iff → zc7, bind_eq_some_iff → zc8
open Prod.mk renaming injEq → zc11
open Array renaming getElem?_toList → zc25, getElem?_eq_some_iff → zc27
open Nat renaming le_refl → zc47
noncomputable section
namespace Go.Ma
end Go.Ma
namespace Go.Ma
open Go Go.RowKit
def i64ok (x : Int) : Bool := match x with | .ofNat n => Nat.ble n 9223372036854775807 | .negSucc n => Nat.ble n 9223372036854775807
theorem zq903 {x : Int} : i64ok x = true ↔ -9223372036854775808 ≤ x ∧ x < 9223372036854775808 := by
 unfold i64ok
 cases x with
 | ofNat n => simp only [Nat.ble_eq,Int.ofNat_eq_natCast]; omega
 | negSucc n => simp only [Nat.ble_eq,Int.negSucc_eq]; omega
def iop (o : BinOp) (x y : Int) : Int :=
 match o with
 | .add => x + y
 | .sub => x - y
 | .mul => x * y
 | _ => 0
def aop (o : BinOp) (k : IntKind) (x y : Int) : Int :=
 match o with
 | .add => k.wrap (x + y)
 | .sub => k.wrap (x - y)
 | .mul => k.wrap (x * y)
 | .quo => k.wrap (x.tdiv y)
 | .rem => x.tmod y
 | .and => k.wrap (BitVec.ofInt k.bits x &&& BitVec.ofInt k.bits y).toNat
 | .or => k.wrap (BitVec.ofInt k.bits x ||| BitVec.ofInt k.bits y).toNat
 | .xor => k.wrap (BitVec.ofInt k.bits x ^^^ BitVec.ofInt k.bits y).toNat
 | .andNot => k.wrap (BitVec.ofInt k.bits x &&& ~~~ BitVec.ofInt k.bits y).toNat
 | .shl => k.wrap (x * 2 ^ (min y.toNat k.bits))
 | .shr => x.fdiv (2 ^ (min y.toNat k.bits))
 | _ => 0
def acmp (o : BinOp) (x y : Int) : Bool :=
 match o with
 | .eql => decide (x = y) | .neq => !decide (x = y) | .lss => decide (x < y) | .leq => decide (x ≤ y) | .gtr => decide (x > y) | .geq => decide (x ≥ y) | _ => false
def zq1794 (o : BinOp) (x y : ByteArray) : Bool :=
 let eq := x.toList == y.toList
 let lt := Op.bytesLess x.toList y.toList
 match o with
 | .eql => eq | .neq => !eq | .lss => lt | .leq => lt || eq | .gtr => !(lt || eq) | .geq => !lt | _ => false
def zq527 (s : ByteArray) (i : Int) : Int := match s[i.toNat]? with | some b => b.toNat | none => 0
def lenS (s : ByteArray) : Int := (s.size : Int)
def subS (s : ByteArray) (lo hi : Int) : ByteArray := s.extract lo.toNat hi.toNat
def catS (s t : ByteArray) : ByteArray := s ++ t
def zq908 (i : Int) (n : Int) : Bool := decide (0 ≤ i) && decide (i < n)
def beqB (x y : Bool) : Bool := x == y
def minI (x y : Int) : Int := if y < x then y else x
def convI (k : IntKind) (x : Int) : Int := k.wrap x
def lenL {α : Type} (l : List α) : Int := (l.length : Int)
def geti {α : Type} (l : List α) (i : Int) : Option α := if 0 ≤ i then l[i.toNat]? else none
def seti {α : Type} (l : List α) (i : Int) (a : α) : List α := l.set i.toNat a
def roomS (s : ByteArray) : Bool := Nat.ble s.size 9223372036854775807
def room (a b : Int) : Bool := Nat.ble (a.toNat + b.toNat) 274877906944
def subL {α : Type} (l : List α) (lo hi : Int) : List α := (l.take hi.toNat).drop lo.toNat
def zq530 (l : List Int) : ByteArray := ⟨(l.map fun n => UInt8.ofNat n.toNat).toArray⟩
structure Ad where
 v6 : Bool
 hi : Int
 lo : Int
 deriving DecidableEq,Inhabited
structure Pf where
 ad : Ad
 bits : Int
 deriving DecidableEq,Inhabited
structure Ls where
 ad : Ad
 who : ByteArray
 upto : Int
 deriving DecidableEq,Inhabited
structure Oq where
 kind : Int
 pf : Pf
 ad : Ad
 who : ByteArray
 of_ : Int
 n : Int
 deriving DecidableEq,Inhabited
structure En where
 num : Int
 epoch : Int
 op : Oq
 deriving DecidableEq,Inhabited
structure Ev where
 kind : Int
 who : Int
 n : Int
 op : Oq
 deriving DecidableEq,Inhabited
inductive K where
 | int | u64 | u8 | bool | str | addr | pfx | lease | op | entry | event
 deriving DecidableEq,Inhabited
def K.T : K → Type
 | .int => Int | .u64 => Int | .u8 => Int | .bool => Bool | .str => ByteArray
 | .addr => Ad | .pfx => Pf | .lease => Ls | .op => Oq | .entry => En | .event => Ev
def K.sz : K → Nat
 | .int => 1 | .u64 => 1 | .u8 => 1 | .bool => 1 | .str => 1
 | .addr => 3 | .pfx => 4 | .lease => 5 | .op => 11 | .entry => 13 | .event => 14
def K.isAgg : K → Bool
 | .addr => true | .pfx => true | .lease => true | .op => true | .entry => true | .event => true
 | _ => false
inductive SV where
 | b (x : Bool) | i (k : IntKind) (x : Int) | s (x : ByteArray)
 | v (x : Value) | any | undef
 | ptr (j off : Nat)
 | row (j : Nat)
 | ep (j : Nat) (i : Int) (sz off : Nat)
 | inn (j : Nat) (i : Int)
 | iep (j : Nat) (i e : Int) (sz off : Nat)
 | agg (l : List SV) | tup (l : List SV)
 | fn (f : FuncId) (caps : List SV)
 deriving Inhabited
def K.enc : (k : K) → k.T → List SV
 | .int,(x : Int) => [.i .i64 x]
 | .u64,(x : Int) => [.i .u64 x]
 | .u8,(x : Int) => [.i .u8 x]
 | .bool,(x : Bool) => [.b x]
 | .str,(x : ByteArray) => [.s x]
 | .addr,(a : Ad) => [.b a.v6,.i .u64 a.hi,.i .u64 a.lo]
 | .pfx,(p : Pf) => [.b p.ad.v6,.i .u64 p.ad.hi,.i .u64 p.ad.lo,.i .i64 p.bits]
 | .lease,(x : Ls) => [.b x.ad.v6,.i .u64 x.ad.hi,.i .u64 x.ad.lo,.s x.who,.i .i64 x.upto]
 | .op,(o : Oq) => [.i .i64 o.kind,.b o.pf.ad.v6,.i .u64 o.pf.ad.hi,.i .u64 o.pf.ad.lo,.i .i64 o.pf.bits,.b o.ad.v6,.i .u64 o.ad.hi,.i .u64 o.ad.lo,.s o.who,.i .i64 o.of_,.i .i64 o.n]
 | .entry,(x : En) => [.i .i64 x.num,.i .i64 x.epoch,.i .i64 x.op.kind,.b x.op.pf.ad.v6,.i .u64 x.op.pf.ad.hi,.i .u64 x.op.pf.ad.lo,.i .i64 x.op.pf.bits,.b x.op.ad.v6,.i .u64 x.op.ad.hi,.i .u64 x.op.ad.lo,.s x.op.who,.i .i64 x.op.of_,.i .i64 x.op.n]
 | .event,(x : Ev) => [.i .i64 x.kind,.i .i64 x.who,.i .i64 x.n,.i .i64 x.op.kind,.b x.op.pf.ad.v6,.i .u64 x.op.pf.ad.hi,.i .u64 x.op.pf.ad.lo,.i .i64 x.op.pf.bits,.b x.op.ad.v6,.i .u64 x.op.ad.hi,.i .u64 x.op.ad.lo,.s x.op.who,.i .i64 x.op.of_,.i .i64 x.op.n]
def K.dec : (k : K) → List SV → Option k.T
 | .int,[.i .i64 x] => some x
 | .u64,[.i .u64 x] => some x
 | .u8,[.i .u8 x] => some x
 | .bool,[.b x] => some x
 | .str,[.s x] => some x
 | .addr,[.b v,.i .u64 h,.i .u64 l] => some (⟨v,h,l⟩ : Ad)
 | .pfx,[.b v,.i .u64 h,.i .u64 l,.i .i64 n] => some (⟨⟨v,h,l⟩,n⟩ : Pf)
 | .lease,[.b v,.i .u64 h,.i .u64 l,.s w,.i .i64 n] => some (⟨⟨v,h,l⟩,w,n⟩ : Ls)
 | .op,[.i .i64 k,.b v,.i .u64 h,.i .u64 l,.i .i64 n,.b v',.i .u64 h',.i .u64 l',.s w,.i .i64 o,.i .i64 m] => some (⟨k,⟨⟨v,h,l⟩,n⟩,⟨v',h',l'⟩,w,o,m⟩ : Oq)
 | .entry,[.i .i64 a,.i .i64 b,.i .i64 k,.b v,.i .u64 h,.i .u64 l,.i .i64 n,.b v',.i .u64 h',.i .u64 l',.s w,.i .i64 o,.i .i64 m] => some (⟨a,b,⟨k,⟨⟨v,h,l⟩,n⟩,⟨v',h',l'⟩,w,o,m⟩⟩ : En)
 | .event,[.i .i64 a,.i .i64 b,.i .i64 c,.i .i64 k,.b v,.i .u64 h,.i .u64 l,.i .i64 n,.b v',.i .u64 h',.i .u64 l',.s w,.i .i64 o,.i .i64 m] => some (⟨a,b,c,⟨k,⟨⟨v,h,l⟩,n⟩,⟨v',h',l'⟩,w,o,m⟩⟩ : Ev)
 | _,_ => none
def zq1465 (v : Value) (off : Nat) : Value :=
 match v with
 | .pointer (some a) => .pointer (some (a.add off))
 | _ => .nilFunc
def zq734 (v : Value) (i off : Nat) : Value :=
 match v with
 | .slice (some a) _ _ => .pointer (some ((a.add i).add off))
 | _ => .nilFunc
def zq1637 (v : Value) : Value :=
 match v with
 | .slice a n c => .slice a n c
 | _ => .nilFunc
def innV (v : Value) (i : Int) : Value :=
 match v with
 | .tuple vs => if 0 ≤ i then zq1637 (vs.toList.getD i.toNat (.slice none 0 0)) else .slice none 0 0
 | _ => .slice none 0 0
def getL {α : Type} (ls : List (List α)) (i : Int) : List α := if 0 ≤ i then ls.getD i.toNat [] else []
mutual
def den (ρ : Nat → Value) : SV → Value
 | .b x => .bool x
 | .i k x => .int k x
 | .s x => .string x
 | .v x => x
 | .any => Go.undef
 | .undef => Go.undef
 | .ptr j off => zq1465 (ρ j) off
 | .row j => zq1637 (ρ j)
 | .ep j i sz off => zq734 (ρ j) (i.toNat * sz) off
 | .inn j i => innV (ρ j) i
 | .iep j i e sz off => zq734 (innV (ρ j) i) (e.toNat * sz) off
 | .agg l => .agg (denL ρ l).toArray
 | .tup l => .tuple (denL ρ l).toArray
 | .fn f caps => .func (.func f) #[] (denL ρ caps).toArray
def denL (ρ : Nat → Value) : List SV → List Value
 | [] => []
 | x :: r => den ρ x :: denL ρ r
end
mutual
/-- Only objects below n are spoken of. -/
def SV.lt (n : Nat) : SV → Bool
 | .ptr j _ => decide (j < n)
 | .row j => decide (j < n)
 | .ep j _ _ _ => decide (j < n)
 | .inn j _ => decide (j < n)
 | .iep j _ _ _ _ => decide (j < n)
 | .agg l => ltL n l
 | .tup l => ltL n l
 | .fn _ l => ltL n l
 | _ => true
def ltL (n : Nat) : List SV → Bool
 | [] => true
 | x :: r => SV.lt n x && ltL n r
end
inductive C where
 | ty (k : K) (l : List k.T)
 | sv (cs : List SV) (sz n : Nat)
 | nest (k : K) (l : List k.T) (j : Nat)
def C.sz : C → Nat
 | .ty k _ => k.sz
 | .sv _ sz _ => sz
 | .nest k _ _ => k.sz + 1
def C.n : C → Nat
 | .ty _ l => l.length
 | .sv _ _ n => n
 | .nest _ l _ => l.length
def C.len : C → Int
 | .ty _ l => lenL l
 | .sv _ _ n => (n : Int)
 | .nest _ l _ => lenL l
def zq1230 (ρ : Nat → Value) (k : K) (v : Value) : List k.T → Nat → List Value
 | [],_ => []
 | a :: r,i => denL ρ (k.enc a) ++ innV v (i : Int) :: zq1230 ρ k v r (i + 1)
def C.den (ρ : Nat → Value) : C → List Value
 | .ty k l => l.flatMap fun a => denL ρ (k.enc a)
 | .sv cs _ _ => denL ρ cs
 | .nest k l j => zq1230 ρ k (ρ j) l 0
def C.lt (n : Nat) : C → Bool
 | .ty _ _ => true
 | .sv cs _ _ => ltL n cs
 | .nest _ _ j => decide (j < n)
inductive Obj where
 | blk (cs : List SV) (ty : TypeId) (own : Bool)
 | row (c : C) (ty : TypeId) (own : Bool)
 | bag (k : K) (ls : List (List k.T)) (ty : TypeId) (own fr : Bool)
 | dead (g : Option (Nat × Int))
 | ghost
instance : Inhabited Obj := ⟨.dead none⟩
abbrev Mem := List Obj
structure St where
 t : List SV
 m : Mem
inductive TK where
 | bool | int (k : IntKind) | str | slice | struct | other
 deriving Inhabited
structure TI where
 known : Bool := true
 kind : TK
 agg : Bool
 size : Nat
 zero : List Value
 fields : List (Nat × TypeId)
 elem : TypeId
 bytes : Nat := 0
 eq : Bool := false
 k : Option K := none
 /-- A struct of a datum of a kind and, behind it, a slice of elements of a kind: these, and their type. -/
 nk : Option (K × K × TypeId) := none
 /-- The cells of a struct that are slices: where; elements of a kind, or of such structs; the elements' type. -/
 sl : List (Nat × (K ⊕ (K × K × TypeId)) × TypeId) := []
 deriving Inhabited
def tiOf (P : Program) (t : TypeId) : TI :=
 match P.info? t,P.underlying t with
 | some i,some d =>
  {known := i.zero.isSome
   kind := match d with | .bool => .bool | .int k => .int k | .string => .str | .slice _ => .slice | .struct _ => .struct | _ => .other
   agg := match d with | .struct _ | .array _ _ => true | _ => false
   size := i.size
   zero := match i.zero with | some v => v.cells.toList | none => []
   fields := match d with | .struct fs => fs.toList.map fun f => (f.offset,f.type) | _ => []
   elem := match d with | .slice e => e | .array _ e => e | _ => 0
   bytes := i.bytes }
 | _,_ => { known := false,kind := .other,agg := false,size := 0,zero := [],fields := [],elem := 0 }
def ofC : Value → SV
 | .bool b => .b b
 | .int k n => .i k n
 | .string s => .s s
 | x => .v x
def ofV : Value → SV
 | .agg cs => .agg (cs.toList.map ofC)
 | x => ofC x
def ev (t : List SV) : Operand → SV
 | .tmp i => t.getD i .any
 | .const v => ofV v
 | .global g => .v (.pointer (some ⟨g,0,none⟩))
 | .func f => .fn f []
def SV.isAny : SV → Bool
 | .any => true
 | _ => false
def SV.cells : SV → List SV
 | .agg l => l
 | x => [x]
def oneC : Value → Bool
 | .agg _ | .tuple _ => false
 | _ => true
def SV.one : SV → Bool
 | .any | .undef | .agg _ | .tup _ => false
 | .v x => oneC x
 | _ => true
def isCmp : BinOp → Bool
 | .eql | .neq | .lss | .leq | .gtr | .geq => true
 | _ => false
def zq960 : BinOp → Bool
 | .shl | .shr => true
 | _ => false
def isDiv : BinOp → Bool
 | .quo | .rem => true
 | _ => false
def zq959 : BinOp → Bool
 | .add | .sub | .mul => true
 | _ => false
def isEql : BinOp → Bool
 | .eql => true
 | _ => false
def isNeq : BinOp → Bool
 | .neq => true
 | _ => false
def isAdd : BinOp → Bool
 | .add => true
 | _ => false
def zq749 : SV → SV → Option Bool
 | .b x,.b y => some (beqB x y)
 | .i _ x,.i _ y => some (acmp .eql x y)
 | .s x,.s y => some (zq1794 .eql x y)
 | _,_ => none
def zq750 : List SV → List SV → Option Bool
 | [],[] => some true
 | x :: r,y :: r' =>
  match zq749 x y with
  | none => none
  | some e => if r.isEmpty && r'.isEmpty then some e else (zq750 r r').map fun f => e && f
 | _,_ => none
def zq812 (cs : List SV) (off : Nat) (xs : List SV) : List SV := cs.take off ++ xs ++ cs.drop (off + xs.length)
def zq525 (T : Nat → TI) (t : List SV) (fs : List (Nat × TypeId)) : List (Nat × Operand) → List SV → Option (List SV)
 | [],cs => some cs
 | (i,x) :: r,cs =>
  match fs[i]?,ev t x with
  | some (off,ft),sv => if sv.isAny || !(T ft).known || !sv.cells.all (·.one) || sv.cells.length != (T ft).size || decide (cs.length < off + sv.cells.length) then none else zq525 T t fs r (zq812 cs off sv.cells)
  | none,_ => none
def zq1803 (cs : List SV) (off n : Nat) : Option (List SV) :=
 if cs.length < off + n then none else if ((cs.drop off).take n).all (·.one) then some ((cs.drop off).take n) else none
def valOf (ti : TI) (cs : List SV) : Option SV :=
 if ti.agg then some (.agg cs) else match cs with | [c] => some c | _ => none
def zq979 : List Value → List SV → Bool
 | [],[] => true
 | .bool _ :: r,.b _ :: r' => zq979 r r'
 | .int k _ :: r,.i k' _ :: r' => decide (k = k') && zq979 r r'
 | .string _ :: r,.s _ :: r' => zq979 r r'
 | _,_ => false
def zq573 (k : K) : Nat → List SV → Option (List k.T)
 | 0,cs => if cs.isEmpty then some [] else none
 | n + 1,cs => match k.dec (cs.take k.sz),zq573 k n (cs.drop k.sz) with | some a,some r => some (a :: r) | _,_ => none
def mkRow (ti : TI) (cs : List SV) (n : Nat) : C :=
 match ti.k with
 | some k => if k.sz == ti.size then (match zq573 k n cs with | some l => .ty k l | none => .sv cs ti.size n) else .sv cs ti.size n
 | none => .sv cs ti.size n
def opq (T : Nat → TI) (t : List SV) (m : Mem) : Op → Option (Bool × SV)
 | .move x | .assign x => some (true,ev t x)
 | .pick c a b =>
  match ev t c with
  | .b true => some (true,ev t a)
  | .b false => some (true,ev t b)
  | _ => none
 | .load ty a =>
  match ev t a with
  | .ptr j off =>
   match m[j]? with
   | some (.blk cs _ _) => if (T ty).known then (zq1803 cs off (T ty).size).bind fun l => (valOf (T ty) l).map fun v => (true,v) else none
   | _ => none
  | .ep j n sz off =>
   match m[j]? with
   | some (.row (.sv cs rsz rn) _ _) => if (T ty).known && (rsz == sz) && decide (0 < (T ty).size) then (zq1803 cs (n.toNat * sz + off) (T ty).size).bind fun l => (valOf (T ty) l).map fun v => (zq908 n rn,v) else none
   | _ => none
  | _ => none
 | .fieldAddr ty x f =>
  match (T ty).fields[f]?,(T ty).kind with
  | some (o,ft),.struct =>
   if (T ty).known && (T ft).known && decide ((T ft).size ≠ 0) then
    match ev t x with
    | .ptr j off => (match m[j]? with | some (.blk _ _ _) => some (true,.ptr j (off + o)) | _ => none)
    | .ep j i sz off => (match m[j]? with | some (.row c _ _) => some (zq908 i c.len,.ep j i sz (off + o)) | _ => none)
    | .iep j i e sz off => (match m[j]? with | some (.bag _ ls _ _ _) => some (zq908 e (lenL (getL ls i)),.iep j i e sz (off + o)) | _ => none)
    | _ => none
   else none
  | _,_ => none
 | .field ty x f =>
  match (T ty).fields[f]?,(T ty).kind,ev t x with
  | some (o,ft),.struct,.agg l => if (T ty).known && (T ft).known then (zq1803 l o (T ft).size).bind fun c => (valOf (T ft) c).map fun v => (true,v) else none
  | _,_,_ => none
 | .build ty ps =>
  match (T ty).kind with
  | .struct => if (T ty).known && (T ty).fields.all (fun f => (T f.2).known) then (zq525 T t (T ty).fields ps.toList ((T ty).zero.map ofC)).map fun cs => (true,.agg cs) else none
  | _ => none
 | .binOp o ty x y _ =>
  match ev t x,ev t y with
  | .i k a,.i k' b =>
   if zq960 o then some (decide (0 ≤ b),.i k (aop o k a b))
   else if k = k' then
    if isCmp o then some (true,.b (acmp o a b))
    else if isDiv o then some (!decide (b = 0),.i k (aop o k a b))
    else if zq959 o && decide (k = .i64) then some (i64ok (iop o a b),.i k (iop o a b))
    else some (true,.i k (aop o k a b))
   else none
  | .b a,.b b => match (T ty).kind with
   | .bool => if (T ty).known then (if isEql o then some (true,.b (beqB a b)) else if isNeq o then some (true,.b (!(beqB a b))) else none) else none
   | _ => none
  | .agg a,.agg b =>
   if (T ty).eq && zq979 (T ty).zero a && zq979 (T ty).zero b then (if isEql o then (zq750 a b).map fun e => (true,.b e) else if isNeq o then (zq750 a b).map fun e => (true,.b (!e)) else none) else none
  | .s a,.s b =>
   if isCmp o then some (true,.b (zq1794 o a b))
   else if isAdd o then some (roomS (catS a b),.s (catS a b))
   else none
  | _,_ => none
 | .unOp .not _ x => match ev t x with | .b e => some (true,.b (!e)) | _ => none
 | .convert src dst x =>
  match (T src).known,(T dst).known,(T dst).kind,ev t x with
  | true,true,.int k,.i _ e => some (true,.i k (convI k e))
  | true,true,.str,.row j =>
   (match (T src).kind,(T (T src).elem).known,(T (T src).elem).kind,m[j]? with
   | .slice,true,.int .u8,some (.row (.ty .u8 l) _ _) => some (true,.s (zq530 l))
   | _,_,_,_ => none)
  | _,_,_,_ => none
 | .extract x i => match ev t x with | .tup l => (match l[i]? with | some v => if v.isAny then none else some (true,v) | none => none) | _ => none
 | .nilCheck x => match ev t x with
  | .ptr j off => (match m[j]? with | some (.blk _ _ _) => some (true,.ptr j off) | _ => none)
  | .ep j i sz off => (match m[j]? with | some (.row c _ _) => some (zq908 i c.len,.ep j i sz off) | _ => none)
  | _ => none
 | .makeFunc (.func f) first caps => if first.isEmpty && caps.toList.all (fun x => !(ev t x).isAny) then some (true,.fn f (caps.toList.map (ev t))) else none
 | .index ty x i =>
  match (T ty).known,(T ty).kind,ev t x,ev t i with
  | true,.str,.s s,.i _ e => some (zq908 e (lenS s),.i .u8 (zq527 s e))
  | _,_,_,_ => none
 | .indexAddr ty x i =>
  match (T ty).known,(T ty).kind,ev t x,ev t i with
  | true,.slice,.row j,.i _ e =>
   (match m[j]? with
   | some (.row c _ _) => if (T (T ty).elem).known && (T (T ty).elem).size == c.sz then some (zq908 e c.len,.ep j e c.sz 0) else none
   | _ => none)
  | true,.slice,.inn j i',.i _ e =>
   (match m[j]? with
   | some (.bag k ls _ _ _) => if (T (T ty).elem).known && (T (T ty).elem).size == k.sz then some (zq908 e (lenL (getL ls i')),.iep j i' e k.sz 0) else none
   | _ => none)
  | _,_,_,_ => none
 | .slice ty x lo hi none =>
  match (T ty).known,(T ty).kind,ev t x with
  | true,.str,.s es =>
   (match (match lo with | some l => (match ev t l with | .i _ e => some e | _ => none) | none => some 0),(match hi with | some h => (match ev t h with | .i _ e => some e | _ => none) | none => some (lenS es)) with
   | some l,some h => some (decide (0 ≤ l) && decide (l ≤ h) && decide (h ≤ lenS es),.s (subS es l h))
   | _,_ => none)
  | _,_,_ => none
 | .call c =>
  match c.callee,c.args.toList,c.argTypes.toList with
  | .builtin .len,[x],[at_] =>
   (match (T at_).known,(T at_).kind,ev t x with
   | true,.str,.s e => some (true,.i .i64 (lenS e))
   | true,.slice,.row j => (match m[j]? with | some (.row c _ _) => some (true,.i .i64 c.len) | _ => none)
   | true,.slice,.inn j i => (match m[j]? with | some (.bag _ ls _ _ _) => some (true,.i .i64 (lenL (getL ls i))) | _ => none)
   | true,.slice,.v (.slice none 0 0) => some (true,.i .i64 0)
   | _,_,_ => none)
  | .builtin .min,[x,y],_ =>
   (match ev t x,ev t y with
   | .i .i64 a,.i .i64 b => some (true,.i .i64 (minI a b))
   | _,_ => none)
  | _,_,_ => none
 | _ => none
def zq1111 (t : List SV) (sz n : Nat) : List (Nat × Operand) → List SV → Option (List SV)
 | [],cs => some cs
 | (i,x) :: r,cs => if (ev t x).isAny || !(ev t x).cells.all (·.one) || (ev t x).cells.length != sz || decide (n ≤ i) then none else zq1111 t sz n r (zq812 cs (i * sz) (ev t x).cells)
def zq1548 (z : List Value) : Nat → List SV
 | 0 => []
 | n + 1 => z.map ofC ++ zq1548 z n
def opa (T : Nat → TI) (t : List SV) : Op → Option (Obj × (Nat → SV))
 | .box ty x => if (ev t x).isAny then none else if (ev t x).cells.all (·.one) then some (.blk (ev t x).cells ty true,fun j => .ptr j 0) else none
 | .alloc ty => if (T ty).known then some (.blk ((T ty).zero.map ofC) ty true,fun j => .ptr j 0) else none
 | .buildSlice ty n ps =>
  match (T ty).known,(T ty).kind,(T (T ty).elem).known with
  | true,.slice,true =>
   if decide (0 < (T (T ty).elem).size) && decide (n * (T (T ty).elem).size ≤ 4096) && (T (T ty).elem).zero.length == (T (T ty).elem).size && (T (T ty).elem).zero.all oneC then
    (zq1111 t (T (T ty).elem).size n ps.toList (zq1548 (T (T ty).elem).zero n)).map fun cs => (.row (mkRow (T (T ty).elem) cs n) (T ty).elem true,fun j => .row j)
   else none
  | _,_,_ => none
 | _ => none
def opnil (T : Nat → TI) (ty : TypeId) : Op → Option Obj
 | .move (.const (.slice none 0 0)) | .assign (.const (.slice none 0 0)) =>
  match (T ty).known,(T ty).kind with
  | true,.slice => (match (T (T ty).elem).k with | some k => if (T (T ty).elem).known && (T (T ty).elem).size == k.sz then some (.row (.ty k []) (T ty).elem true) else none | none => none)
  | _,_ => none
 | _ => none
def zq1364 (t : List SV) (m : Mem) (sz : Nat) (e : TypeId) (x : Operand) : Option (Option Nat × C) :=
 match ev t x with
 | .v (.slice none 0 0) => some (none,.sv [] sz 0)
 | .row j => (match m[j]? with | some (.row c ty true) => if c.sz == sz && ty == e then some (some j,c) else none | _ => none)
 | _ => none
def zq1689 (t : List SV) (m : Mem) (sz : Nat) (x : Operand) : Option (Option Nat × C) :=
 match ev t x with
 | .v (.slice none 0 0) => some (none,.sv [] sz 0)
 | .row j => (match m[j]? with | some (.row c _ _) => if c.sz == sz then some (some j,c) else none | _ => none)
 | .inn j i => (match m[j]? with | some (.bag k ls _ _ _) => if k.sz == sz then some (some j,.ty k (getL ls i)) else none | _ => none)
 | _ => none
def castL {k k' : K} (h : k = k') (l : List k.T) : List k'.T := h ▸ l
def zq537 {k k' : K} (h : k = k') (l : List (List k.T)) : List (List k'.T) := h ▸ l
def C.cat : C → C → Option C
 | .ty k l,.ty k' l' => if h : k' = k then some (.ty k (l ++ castL h l')) else none
 | .ty k l,.sv [] _ 0 => some (.ty k l)
 | .sv [] _ 0,.ty k l => some (.ty k l)
 | .sv cs sz n,.sv cs' sz' n' => if sz == sz' then some (.sv (cs ++ cs') sz (n + n')) else none
 | _,_ => none
def killO (m : Mem) : Option Nat → Mem
 | some j => m.set j (.dead none)
 | none => m
def opap (T : Nat → TI) (t : List SV) (m : Mem) : Op → Option (Bool × Mem)
 | .call c =>
  match c.callee,c.args.toList,c.argTypes.toList with
  | .builtin .append,[x,y],[ty,ty'] =>
   if ty == ty' && (T ty).known && (T (T ty).elem).known && decide (0 < (T (T ty).elem).size) && decide ((T (T ty).elem).bytes ≤ 256) && (T (T ty).elem).zero.length == (T (T ty).elem).size then
    match (T ty).kind,zq1364 t m (T (T ty).elem).size (T ty).elem x,zq1689 t m (T (T ty).elem).size y with
    | .slice,some (j,c),some (j',c') =>
     if j.isSome && j == j' then none
     else match c.cat c' with
      | some d => some (room c.len c'.len,killO m j ++ [.row d (T ty).elem true])
      | none => none
    | _,_,_ => none
   else none
  | _,_,_ => none
 | _ => none
def bndE (t : List SV) (x : Option Operand) (d : Int) : Option Int :=
 match x with
 | some l => (match ev t l with | .i _ e => some e | _ => none)
 | none => some d
def C.sub : C → Int → Int → C
 | .ty k l,lo,hi => .ty k (subL l lo hi)
 | .sv cs sz _,lo,hi => .sv ((cs.take (hi.toNat * sz)).drop (lo.toNat * sz)) sz (hi.toNat - lo.toNat)
 | .nest k l j,_,_ => .nest k l j
def C.flat : C → Bool
 | .nest _ _ _ => false
 | _ => true
def opsl (T : Nat → TI) (t : List SV) (m : Mem) : Op → Option (Bool × Mem)
 | .slice ty x lo hi none =>
  match (T ty).known,(T ty).kind,ev t x with
  | true,.slice,.row j =>
   (match m[j]? with
   | some (.row c bt own) =>
    if (T (T ty).elem).known && (T (T ty).elem).size == c.sz && c.flat then
     (match bndE t lo 0,bndE t hi c.len with
     | some l,some h => some (decide (0 ≤ l) && decide (l ≤ h) && decide (h ≤ c.len),killO m (if own then some j else none) ++ [.row (c.sub l h) bt (own && lo.isNone)])
     | _,_ => none)
    else none
   | _ => none)
  | _,_,_ => none
 | _ => none
structure RdL where
 k : K
 l : List k.T
 i : Int
 off : Nat
 ti : TI
 tl : List SV := []
def oprd (T : Nat → TI) (t : List SV) (m : Mem) : Op → Option RdL
 | .load ty a =>
  match ev t a with
  | .ep j i sz off =>
   (match m[j]? with
   | some (.row (.ty k l) _ _) => if (T ty).known && k.sz == sz && decide (0 < (T ty).size) then some ⟨k,l,i,off,T ty,[]⟩ else none
   | some (.row (.nest k l jb) _ _) => if (T ty).known && k.sz + 1 == sz && decide (0 < (T ty).size) then some ⟨k,l,i,off,T ty,[.inn jb i]⟩ else none
   | _ => none)
  | .iep j i e sz off =>
   (match m[j]? with
   | some (.bag k ls _ _ _) => if (T ty).known && k.sz == sz && decide (0 < (T ty).size) then some ⟨k,getL ls i,e,off,T ty,[]⟩ else none
   | _ => none)
  | _ => none
 | _ => none
def RdL.val (r : RdL) (a : r.k.T) : Option SV := (zq1803 (r.k.enc a ++ r.tl) r.off r.ti.size).bind (valOf r.ti)
def opst (T : Nat → TI) (t : List SV) (m : Mem) : Op → Option Mem
 | .store ty a x =>
  match ev t a with
  | .ptr j off =>
   match m[j]? with
   | some (.blk cs bt true) =>
    if (T ty).known && !(ev t x).isAny && (ev t x).cells.all (·.one) && (ev t x).cells.length == (T ty).size && decide (off + (T ty).size ≤ cs.length) then some (m.set j (.blk (zq812 cs off (ev t x).cells) bt true)) else none
   | _ => none
  | _ => none
 | _ => none
def K.upd (k : K) (a : k.T) (off : Nat) (xs : List SV) : Option k.T := if off + xs.length ≤ k.sz then k.dec (zq812 (k.enc a) off xs) else none
structure StR where
 j : Nat
 k : K
 l : List k.T
 bt : TypeId
 i : Int
 off : Nat
 xs : List SV
def opsr (T : Nat → TI) (t : List SV) (m : Mem) : Op → Option StR
 | .store ty a x =>
  match ev t a with
  | .ep j i sz off =>
   match m[j]? with
   | some (.row (.ty k l) bt true) => if (T ty).known && k.sz == sz && !(ev t x).isAny && (ev t x).cells.all (·.one) && (ev t x).cells.length == (T ty).size then some ⟨j,k,l,bt,i,off,(ev t x).cells⟩ else none
   | _ => none
  | _ => none
 | _ => none
def StR.mem (r : StR) (m : Mem) (b : r.k.T) : Mem := m.set r.j (.row (.ty r.k (seti r.l r.i b)) r.bt true)
def innOf (m : Mem) (k : K) (ity : TypeId) : SV → Option (List k.T × Bool × Bool × Option Nat)
 | .row r => (match m[r]? with | some (.row (.ty k' l) ty own) => if h : k' = k then some (castL h l,own && ty == ity,own,some r) else none | _ => none)
 | .inn j i => (match m[j]? with | some (.bag k' ls _ own fr) => if h : k' = k then some (castL h (getL ls i),false,own || fr,some j) else none | _ => none)
 | .v (.slice none 0 0) => some ([],true,true,none)
 | _ => none
def zq1234 (m : Mem) (hk ik : K) (ity : TypeId) : Nat → List SV → Option (List hk.T × List (List ik.T) × Bool × Bool × List Nat)
 | 0,cs => if cs.isEmpty then some ([],[],true,true,[]) else none
 | n + 1,cs =>
  match hk.dec (cs.take hk.sz),cs.drop hk.sz with
  | some a,c :: r =>
   (match innOf m ik ity c,zq1234 m hk ik ity n r with
   | some (x,o,f,j),some (l,ls,o',f',js) => some (a :: l,x :: ls,o && o',f && f',j.toList ++ js)
   | _,_ => none)
  | _,_ => none
def nodup : List Nat → Bool
 | [] => true
 | x :: r => !r.contains x && nodup r
def killL : List Nat → Mem → Mem
 | [],m => m
 | j :: r,m => killL r (m.set j (.dead none))
def Obj.shut : Obj → Obj
 | .blk cs ty _ => .blk cs ty false
 | .row c ty _ => .row c ty false
 | .bag k ls ty own fr => .bag k ls ty false (own || fr)
 | .dead g => .dead g
 | .ghost => .dead none
def shutL : List Nat → Mem → Mem
 | [],m => m
 | j :: r,m => shutL r (m.set j (m.getD j (.dead none)).shut)
def goneL (own : Bool) (js : List Nat) (m : Mem) : Mem := if own then killL js m else shutL js m
def padL {α : Type} (n : Nat) (ls : List (List α)) : List (List α) := (ls ++ List.replicate (n - ls.length) []).take n
def mkN (T : Nat → TI) (ty : TypeId) (x y : Int) : Option (Nat → List Obj) :=
 match (T ty).known,(T ty).kind,(T (T ty).elem).known,(T (T ty).elem).nk with
 | true,.slice,true,some (hk,ik,ity) =>
  if (T (T ty).elem).size == hk.sz + 1 && decide (0 ≤ x) && decide (x ≤ 64) && decide (x = y) && decide ((T (T ty).elem).bytes ≤ 256) && (T (T ty).elem).zero.length == (T (T ty).elem).size then
   match zq1234 [] hk ik ity x.toNat (zq1548 (T (T ty).elem).zero x.toNat) with
   | some (l,ls,own,fr,[]) => some fun n => [.bag ik ls ity own fr,.row (.nest hk l n) (T ty).elem true]
   | _ => none
  else none
 | _,_,_,_ => none
def opnlN (T : Nat → TI) (m : Mem) (oty : TypeId) : Op → Option Mem
 | .move (.const (.slice none 0 0)) | .assign (.const (.slice none 0 0)) =>
  match (T oty).known,(T oty).kind,(T (T oty).elem).known,(T (T oty).elem).nk with
  | true,.slice,true,some (hk,ik,ity) => if (T (T oty).elem).size == hk.sz + 1 then some (m ++ [.bag ik [] ity true true,.row (.nest hk [] m.length) (T oty).elem true]) else none
  | _,_,_,_ => none
 | .makeSlice ty (.const (.int _ x)) (.const (.int _ y)) => (mkN T ty x y).map fun f => m ++ f m.length
 | _ => none
def opnl (T : Nat → TI) (t : List SV) (m : Mem) (oty : TypeId) : Op → Option Mem
 | .buildSlice ty n ps =>
  match (T ty).known,(T ty).kind,(T (T ty).elem).known,(T (T ty).elem).nk with
  | true,.slice,true,some (hk,ik,ity) =>
   if (T (T ty).elem).size == hk.sz + 1 && decide (n ≤ 64) && (T (T ty).elem).zero.length == (T (T ty).elem).size && (T (T ty).elem).zero.all oneC then
    match zq1111 t (T (T ty).elem).size n ps.toList (zq1548 (T (T ty).elem).zero n) with
    | some cs =>
     (match zq1234 m hk ik ity n cs with
     | some (l,ls,own,fr,js) => if !own || nodup js then some (goneL own js m ++ [.bag ik ls ity own fr,.row (.nest hk l m.length) (T ty).elem true]) else none
     | none => none)
    | none => none
   else none
  | _,_,_,_ => none
 | op => opnlN T m oty op
structure Nst where
 hk : K
 ik : K
 l : List hk.T
 ls : List (List ik.T)
 jb : Nat
 own : Bool
 fr : Bool
def nstAt (m : Mem) (hk ik : K) (ity : TypeId) (j : Nat) : Option (Bool × TypeId × Nst) :=
 match m[j]? with
 | some (.row (.nest hk' l jb) ty o) =>
  (match m[jb]? with
  | some (.bag ik' ls ity' own fr) => if hk' = hk ∧ ik' = ik ∧ ity' = ity then some (o,ty,⟨hk',ik',l,ls,jb,own,fr⟩) else none
  | _ => none)
 | _ => none
def opan (T : Nat → TI) (t : List SV) (m : Mem) : Op → Option (Bool × Mem)
 | .call c =>
  match c.callee,c.args.toList,c.argTypes.toList with
  | .builtin .append,[x,y],[ty,ty'] =>
   (match (T (T ty).elem).nk,ev t x,ev t y with
   | some (hk,ik,ity),.row j,.row j' =>
    if ty == ty' && (T ty).known && (T (T ty).elem).known && (T (T ty).elem).size == hk.sz + 1 && decide ((T (T ty).elem).bytes ≤ 256) && (T (T ty).elem).zero.length == (T (T ty).elem).size && j != j' then
     match (T ty).kind,nstAt m hk ik ity j,nstAt m hk ik ity j' with
     | .slice,some (true,bt,a),some (_,_,b) =>
      if h : b.hk = a.hk ∧ b.ik = a.ik then
       if bt == (T ty).elem && a.jb != b.jb then
        some (room (lenL a.l) (lenL b.l),killO (goneL (a.own && b.own) [a.jb,b.jb] m ++ [.bag a.ik (padL a.l.length a.ls ++ zq537 h.2 b.ls) ity (a.own && b.own) ((a.own || a.fr) && (b.own || b.fr))]) (some j) ++ [.row (.nest a.hk (a.l ++ castL h.1 b.l) m.length) bt true])
       else none
      else none
     | _,_,_ => none
    else none
   | _,_,_ => none)
  | _,_,_ => none
 | _ => none
structure StN where
 j : Nat
 k : K
 l : List k.T
 jb : Nat
 bt : TypeId
 i : Int
 off : Nat
 xs : List SV
 ik : K
 ls : List (List ik.T)
 ity : TypeId
 own : Bool
 fr : Bool
 x : Option (List ik.T × Bool × Bool × Option Nat)
 c : Bool := true
def opsn (T : Nat → TI) (t : List SV) (m : Mem) : Op → Option StN
 | .store ty a x =>
  match ev t a with
  | .ep j i sz off =>
   match m[j]? with
   | some (.row (.nest k l jb) bt true) =>
    (match m[jb]? with
    | some (.bag ik ls ity own fr) =>
     if (T ty).known && k.sz + 1 == sz && !(ev t x).isAny && (ev t x).cells.all (·.one) && (ev t x).cells.length == (T ty).size then
      (if off + (ev t x).cells.length ≤ k.sz then some ⟨j,k,l,jb,bt,i,off,(ev t x).cells,ik,ls,ity,own,fr,none,true⟩
      else if off + (ev t x).cells.length = k.sz + 1 then
       (match (ev t x).cells.getLast? with
       | some c => (match innOf m ik ity c with | some y => if y.2.2.2 == some j || y.2.2.2 == some jb then none else some ⟨j,k,l,jb,bt,i,off,(ev t x).cells.dropLast,ik,ls,ity,own,fr,some y,true⟩ | none => none)
       | none => none)
      else none)
     else none
    | some (.dead (some (nb,i0))) =>
     (match m[nb]? with
     | some (.bag ik ls ity own fr) =>
      if (T ty).known && k.sz + 1 == sz && !(ev t x).isAny && (ev t x).cells.all (·.one) && (ev t x).cells.length == (T ty).size && decide (off + (ev t x).cells.length = k.sz + 1) then
       (match (ev t x).cells.getLast? with
       | some c => (match innOf m ik ity c with | some y => if y.2.2.2 == some j || y.2.2.2 == some nb then none else some ⟨j,k,l,nb,bt,i,off,(ev t x).cells.dropLast,ik,ls,ity,own,fr,some y,decide (i = i0)⟩ | none => none)
       | none => none)
      else none
     | _ => none)
    | _ => none)
   | _ => none
  | _ => none
 | _ => none
def StN.mem (r : StN) (m : Mem) (b : r.k.T) : Mem :=
 match r.x with
 | none => m.set r.j (.row (.nest r.k (seti r.l r.i b) r.jb) r.bt true)
 | some (y,o,f,jr) => (goneL (r.own && o) (r.jb :: jr.toList) m ++ [Obj.bag r.ik (seti (padL r.l.length r.ls) r.i y) r.ity (r.own && o) ((r.own || r.fr) && f)]).set r.j (.row (.nest r.k (seti r.l r.i b) m.length) r.bt true)
def layB (j off : Nat) : List (Nat × (K ⊕ (K × K × TypeId)) × TypeId) → Mem → Mem
 | [],m => m
 | (o,kd,e) :: r,m =>
  match m[j]? with
  | some (.blk cs ty own) =>
   (match cs[off + o]? with
   | some (.v (.slice none 0 0)) =>
    (match kd with
    | .inl k => layB j off r ((m ++ [Obj.row (.ty k []) e true]).set j (Obj.blk (cs.set (off + o) (.row m.length)) ty own))
    | .inr (hk,ik,ity) => layB j off r ((m ++ [Obj.bag ik [] ity true true,Obj.row (.nest hk [] m.length) e true]).set j (Obj.blk (cs.set (off + o) (.row (m.length + 1))) ty own)))
   | _ => layB j off r m)
  | _ => layB j off r m
def post (T : Nat → TI) (t : List SV) (n : Nat) : Op → Mem → Mem
 | .alloc ty,m => layB n 0 (T ty).sl m
 | .box ty _,m => layB n 0 (T ty).sl m
 | .store ty a _,m => (match ev t a with | .ptr j off => layB j off (T ty).sl m | _ => m)
 | _,m => m
def outL {α : Type} (ls : List (List α)) (i : Int) : List (List α) := ls.set i.toNat []
def takeM (m : Mem) (jb : Nat) (i : Int) : Option Mem :=
 match m[jb]? with
 | some (.bag k ls ty true fr) => some (m.set jb (.dead (some (m.length,i))) ++ [.bag k (outL ls i) ty true fr,.row (.ty k (getL ls i)) ty true])
 | _ => none
def pre (t : List SV) (m : Mem) : Op → Option (Bool × Nat × Mem)
 | .call c =>
  match c.callee,c.args.toList with
  | .builtin .append,.tmp s :: _ => (match t.getD s .any with | .inn jb i => (takeM m jb i).map fun m' => (decide (0 ≤ i),s,m') | _ => none)
  | _,_ => none
 | _ => none
structure ClS where
 j : Nat
 k : K
 l : List k.T
 bt : TypeId
 e : Int
 z : k.T
def opcl (T : Nat → TI) (t : List SV) (m : Mem) (o : Oper) (r : List Oper) : Option ClS :=
 match o.op,o.dst,r with
 | .slice ty x (some lo) none none,some d,o' :: _ =>
  match o'.op,o'.dst,o'.guard with
  | .call c,none,none =>
   match c.callee,c.args.toList,c.argTypes.toList with
   | .builtin .clear,[.tmp d'],[ty'] =>
    if d' == d && ty' == ty && decide (d < t.length) && (T ty).known && (T (T ty).elem).known then
     match (T ty).kind,ev t x,bndE t (some lo) 0 with
     | .slice,.row j,some e =>
      match m[j]? with
      | some (.row (.ty k l) bt true) => if (T (T ty).elem).size == k.sz then (k.dec ((T (T ty).elem).zero.map ofC)).map fun z => ⟨j,k,l,bt,e,z⟩ else none
      | _ => none
     | _,_,_ => none
    else none
   | _,_,_ => none
  | _,_,_ => none
 | _,_,_ => none
def insL {α : Type} (l : List α) (i : Int) (x : α) : List α := l.take i.toNat ++ x :: l.drop i.toNat
def clrL {α : Type} (l : List α) (e : Int) (a : α) : List α := l.take e.toNat ++ List.replicate (l.length - e.toNat) a
def ClS.ok (c : ClS) : Bool := decide (0 ≤ c.e) && decide (c.e ≤ lenL c.l)
def ClS.mem (c : ClS) (m : Mem) : Mem := m.set c.j (.row (.ty c.k (clrL c.l c.e c.z)) c.bt true)
section
variable {X : Type}
def br (c : Bool) (a b : Option X) : Option X := match c with | true => a | false => b
def req (c : Bool) (a : Option X) : Option X := match c with | true => a | false => none
end
mutual
def SV.refs : SV → List Nat
 | .ptr j _ => [j]
 | .row j => [j]
 | .ep j _ _ _ => [j]
 | .inn j _ => [j]
 | .iep j _ _ _ _ => [j]
 | .agg l => refsL l
 | .tup l => refsL l
 | .fn _ l => refsL l
 | _ => []
def refsL : List SV → List Nat
 | [] => []
 | x :: r => x.refs ++ refsL r
end
mutual
def SV.ren (σ : Nat → Option Nat) : SV → Option SV
 | .ptr j o => (σ j).map fun k => .ptr k o
 | .row j => (σ j).map fun k => .row k
 | .ep j i sz o => (σ j).map fun k => .ep k i sz o
 | .inn j i => (σ j).map fun k => .inn k i
 | .iep j i e sz o => (σ j).map fun k => .iep k i e sz o
 | .agg l => (renL σ l).map fun l => .agg l
 | .tup l => (renL σ l).map fun l => .tup l
 | .fn f l => (renL σ l).map fun l => .fn f l
 | .b x => some (.b x) | .i k x => some (.i k x) | .s x => some (.s x) | .v x => some (.v x) | .any => some .any | .undef => some .undef
def renL (σ : Nat → Option Nat) : List SV → Option (List SV)
 | [] => some []
 | x :: r => (x.ren σ).bind fun y => (renL σ r).map fun l => y :: l
end
def Obj.refs : Obj → List Nat
 | .dead _ => []
 | .ghost => []
 | .blk cs _ _ => refsL cs
 | .row (.ty _ _) _ _ => []
 | .row (.sv cs _ _) _ _ => refsL cs
 | .row (.nest _ _ j) _ _ => [j]
 | .bag _ _ _ _ _ => []
def Obj.ren (σ : Nat → Option Nat) : Obj → Option Obj
 | .dead _ => some (.dead none)
 | .ghost => some .ghost
 | .blk cs ty own => (renL σ cs).map fun cs => .blk cs ty own
 | .row (.ty k l) ty own => some (.row (.ty k l) ty own)
 | .row (.sv cs sz n) ty own => (renL σ cs).map fun cs => .row (.sv cs sz n) ty own
 | .row (.nest k l j) ty own => (σ j).map fun j => .row (.nest k l j) ty own
 | .bag k ls ty own fr => some (.bag k ls ty own fr)
def renOs (σ : Nat → Option Nat) : List Obj → Option (List Obj)
 | [] => some []
 | x :: r => (x.ren σ).bind fun y => (renOs σ r).map fun l => y :: l
def zq393 (base : Nat) : List Nat → List Nat → List Nat
 | acc,[] => acc
 | acc,j :: r => if decide (j < base) || acc.contains j then zq393 base acc r else zq393 base (acc ++ [j]) r
def place (l : List Nat) (j : Nat) : Option Nat :=
 match l with
 | [] => none
 | x :: r => if x == j then some 0 else (place r j).map (· + 1)
structure Cp where
 vals : List SV
 objs : List Obj
def zq972 (base : Nat) (keep : List Nat) (s : St) : List Nat :=
 let vs := keep.map fun i => s.t.getD i .any
 let r0 := zq393 base [] (refsL vs ++ (s.m.take base).flatMap Obj.refs)
 let r1 := zq393 base r0 (r0.flatMap fun j => (s.m.getD j (.dead none)).refs)
 zq393 base r1 (r1.flatMap fun j => (s.m.getD j (.dead none)).refs)
def sig (base : Nat) (r : List Nat) (j : Nat) : Option Nat := if j < base then some j else (place r j).map (base + ·)
def norm (base : Nat) (keep : List Nat) (s : St) : Option Cp :=
 let r := zq972 base keep s
 (renL (sig base r) (keep.map fun i => s.t.getD i .any)).bind fun vs => (renOs (sig base r) (s.m.take base ++ r.map fun j => s.m.getD j (.dead none))).map fun os => ⟨vs,os⟩
def zq1610 (t : List SV) : List (Nat × SV) → List SV
 | [] => t
 | (i,v) :: r => zq1610 (t.set i v) r
def zq760 (n : Nat) (keep : List Nat) (c : Cp) : St := ⟨zq1610 (List.replicate n .any) (keep.zip c.vals),c.objs⟩
mutual
def svEq : SV → SV → Bool
 | .ptr j o,.ptr k p => decide (j = k) && decide (o = p)
 | .row j,.row k => decide (j = k)
 | .undef,.undef => true
 | .any,.any => true
 | .v (.slice none 0 0),.v (.slice none 0 0) => true
 | .fn f l,.fn g r => decide (f = g) && svEqL l r
 | _,_ => false
def svEqL : List SV → List SV → Bool
 | [],[] => true
 | x :: r,y :: s => svEq x y && svEqL r s
 | _,_ => false
end
inductive LC where
 | fl (k : K)
 | cst (v : SV)
 | inn (j : Nat)
def LCsT : List LC → Type
 | [] => Unit
 | .fl k :: r => k.T × LCsT r
 | .cst _ :: r => LCsT r
 | .inn _ :: r => Int × LCsT r
inductive LV where
 | one (c : LC)
 | agg (l : List LC)
def LV.T : LV → Type
 | .one c => LCsT [c]
 | .agg l => LCsT l
inductive LO where
 | blk (l : List LC) (ty : TypeId) (own : Bool)
 | row (k : K) (ty : TypeId) (own : Bool)
 | raw (l : List LC) (sz n : Nat) (ty : TypeId) (own : Bool)
 | nest (k : K) (j : Nat) (ty : TypeId) (own : Bool)
 | bag (k : K) (ty : TypeId) (own fr : Bool)
 | dead
 | ghost
def LO.T : LO → Type
 | .blk l _ _ => LCsT l
 | .row k _ _ => List k.T
 | .raw l _ _ _ _ => LCsT l
 | .nest k _ _ _ => List k.T
 | .bag k _ _ _ => List (List k.T)
 | .dead => Unit
 | .ghost => Unit
def LVsT : List LV → Type
 | [] => Unit
 | v :: r => v.T × LVsT r
def LOsT : List LO → Type
 | [] => Unit
 | v :: r => v.T × LOsT r
structure Form where
 keep : List Nat
 vals : List LV
 objs : List LO
def Form.T (f : Form) : Type := LVsT f.vals × LOsT f.objs
def innI (j : Nat) : SV → Option Int
 | .inn j' i => bif decide (j' = j) then some i else none
 | _ => none
def zq687 : (l : List LC) → List SV → Option (LCsT l)
 | [],[] => some ()
 | [],_ :: _ => none
 | .fl k :: r,cs => (k.dec (cs.take k.sz)).bind fun a => (zq687 r (cs.drop k.sz)).map fun b => (a,b)
 | .cst _ :: _,[] => none
 | .cst v :: r,c :: cs => bif svEq c v then zq687 r cs else none
 | .inn _ :: _,[] => none
 | .inn j :: r,c :: cs => (innI j c).bind fun i => (zq687 r cs).map fun b => (i,b)
def zq736 : (l : List LC) → LCsT l → List SV
 | [],_ => []
 | .fl k :: r,x => k.enc x.1 ++ zq736 r x.2
 | .cst v :: r,x => v :: zq736 r x
 | .inn j :: r,x => .inn j x.1 :: zq736 r x.2
def SV.parts : SV → Option (List SV)
 | .agg l => some l
 | _ => none
def decLV : (v : LV) → SV → Option v.T
 | .one c,x => zq687 [c] [x]
 | .agg l,x => x.parts.bind (zq687 l)
def encLV : (v : LV) → v.T → SV
 | .one c,x => (zq736 [c] x).headD .any
 | .agg l,x => .agg (zq736 l x)
def rowL (k : K) (ty : TypeId) (own : Bool) : Obj → Option (List k.T)
 | .row (.ty k' l) ty' own' => if h : k' = k then (bif decide (ty' = ty) && (own' == own || !own) then some (castL h l) else none) else none
 | _ => none
def blkL (ty : TypeId) (own : Bool) : Obj → Option (List SV)
 | .blk cs ty' own' => bif decide (ty' = ty) && (own' == own || !own) then some cs else none
 | _ => none
def rawL (sz n : Nat) (ty : TypeId) (own : Bool) : Obj → Option (List SV)
 | .row (.sv cs sz' n') ty' own' => bif decide (ty' = ty) && (own' == own || !own) && decide (sz' = sz) && decide (n' = n) then some cs else none
 | _ => none
def nestL (k : K) (j : Nat) (ty : TypeId) (own : Bool) : Obj → Option (List k.T)
 | .row (.nest k' l j') ty' own' => if h : k' = k then (bif decide (ty' = ty) && (own' == own || !own) && decide (j' = j) then some (castL h l) else none) else none
 | _ => none
def bagL (k : K) (ty : TypeId) (own fr : Bool) : Obj → Option (List (List k.T))
 | .bag k' ls ty' own' fr' => if h : k' = k then (bif decide (ty' = ty) && ((own' == own && fr' == fr) || (!own && (fr == (own' || fr'))) || (!own && !fr)) then some (zq537 h ls) else none) else none
 | _ => none
def zq875 : Obj → Option Unit
 | .ghost => some ()
 | _ => none
def decLO : (v : LO) → Obj → Option v.T
 | .blk l ty own,o => (blkL ty own o).bind (zq687 l)
 | .row k ty own,o => rowL k ty own o
 | .raw l sz n ty own,o => (rawL sz n ty own o).bind (zq687 l)
 | .nest k j ty own,o => nestL k j ty own o
 | .bag k ty own fr,o => bagL k ty own fr o
 | .dead,_ => some ()
 | .ghost,o => zq875 o
def encLO : (v : LO) → v.T → Obj
 | .blk l ty own,x => .blk (zq736 l x) ty own
 | .row k ty own,x => .row (.ty k x) ty own
 | .raw l sz n ty own,x => .row (.sv (zq736 l x) sz n) ty own
 | .nest k j ty own,x => .row (.nest k x j) ty own
 | .bag k ty own fr,x => .bag k x ty own fr
 | .dead,_ => .dead none
 | .ghost,_ => .ghost
def zq693 : (l : List LV) → List SV → Option (LVsT l)
 | [],[] => some ()
 | v :: r,x :: xs => (decLV v x).bind fun a => (zq693 r xs).map fun b => (a,b)
 | _,_ => none
def zq738 : (l : List LV) → LVsT l → List SV
 | [],_ => []
 | v :: r,x => encLV v x.1 :: zq738 r x.2
def zq690 : (l : List LO) → List Obj → Option (LOsT l)
 | [],[] => some ()
 | v :: r,x :: xs => (decLO v x).bind fun a => (zq690 r xs).map fun b => (a,b)
 | _,_ => none
def zq737 : (l : List LO) → LOsT l → List Obj
 | [],_ => []
 | v :: r,x => encLO v x.1 :: zq737 r x.2
def decF (f : Form) (c : Cp) : Option f.T := (zq693 f.vals c.vals).bind fun a => (zq690 f.objs c.objs).map fun b => (a,b)
def encF (f : Form) (x : f.T) : Cp := ⟨zq738 f.vals x.1,zq737 f.objs x.2⟩
def stF (n : Nat) (f : Form) (x : f.T) : St := zq760 n f.keep (encF f x)
def isF (n base : Nat) (f : Form) (s : St) : Option f.T := bif decide (s.t.length = n) && decide (base ≤ s.m.length) then (norm base f.keep s).bind (decF f) else none
structure ExitF where
 at_ : Option Nat
 form : Form
def OutT : List ExitF → Type
 | [] => Empty
 | [x] => x.form.T
 | x :: r => x.form.T ⊕ OutT r
def atEq : Option Nat → Option Nat → Bool
 | none,none => true
 | some i,some j => i == j
 | _,_ => false
def outF (n base : Nat) : (l : List ExitF) → Option Nat → St → Option (OutT l)
 | [],_,_ => none
 | [x],i,s => bif atEq x.at_ i then isF n base x.form s else none
 | x :: y :: r,i,s => bif atEq x.at_ i then (isF n base x.form s).map Sum.inl else (outF n base (y :: r) i s).map Sum.inr
def sumC {A B X : Type} (o : A ⊕ B) (f : A → X) (g : B → X) : X := match o with | .inl a => f a | .inr b => g b
def goAt {X : Type} (n : Nat) (e : Nat → St → Option X) (r : St → Option X) (x : ExitF) (y : x.form.T) : Option X := match x.at_ with | some i => e i (stF n x.form y) | none => r (stF n x.form y)
def goOn {X : Type} (n : Nat) (e : Nat → St → Option X) (r : St → Option X) : (l : List ExitF) → OutT l → Option X
 | [],o => nomatch o
 | [x],y => goAt n e r x y
 | x :: z :: t,o => sumC o (fun y => goAt n e r x y) (fun o => goOn n e r (z :: t) o)
structure JoinS where
 n : Nat
 exits : List ExitF
def BIG : Nat := 1000000
abbrev Tr := (X : Type) → List SV → Mem → (SV → Mem → Option X) → Option X
abbrev LTr := (X : Type) → Nat → St → (Nat → St → Option X) → (St → Option X) → Option X
structure Con where
 tr : Tr
 q : Bool
 law : Bool
 /-- It answers alike whatever follows. -/
 det : Bool := law
structure Env where
 T : Nat → TI
 B : Nat → Bool
 call : FuncId → Option Con
 loop : Nat → Option LTr
 cond : Nat → Option JoinS := fun _ => none
def put (t : List SV) (d : Option Nat) (v : SV) : List SV := match d with | some d => t.set d v | none => t
section
variable {X : Type}
def resC (T : Nat → TI) (s : St) : ResultVar → Option SV
 | .tmp t => if (s.t.getD t .any).isAny then none else some (s.t.getD t .any)
 | .cell t ty =>
  match s.t.getD t .any with
  | .ptr j off =>
   (match s.m[j]? with
   | some (.blk cs _ _) => if (T ty).known then (zq1803 cs off (T ty).size).bind (valOf (T ty)) else none
   | _ => none)
  | _ => none
def resL (T : Nat → TI) (s : St) : List ResultVar → Option (List SV)
 | [] => some []
 | r :: rs => match resC T s r,resL T s rs with | some v,some l => some (v :: l) | _,_ => none
def fin (T : Nat → TI) (rs : List ResultVar) (k : SV → Mem → Option X) (s : St) : Option X :=
 match resL T s rs with
 | some [v] => k v s.m
 | some l => k (.tup l) s.m
 | none => none
def zq1290 (E : Env) (t : List SV) : Op → Option (Con × List SV)
 | .call c =>
  match c.callee with
  | .value f =>
   match ev t f with
   | .fn f caps => if E.B f && (c.args.toList.map (ev t) ++ caps).all (fun x => !x.isAny) then (E.call f).map fun g => (g,c.args.toList.map (ev t) ++ caps) else none
   | _ => none
  | _ => none
 | _ => none
def opx0 (E : Env) (t : List SV) (o : Oper) (m : Mem) (k : SV → Mem → Option X) : Option X :=
 match opnil E.T o.type o.op with
 | some ob => k (.row m.length) (m ++ [ob])
 | none =>
 match opnl E.T t m o.type o.op with
 | some m' => k (.row (m'.length - 1)) m'
 | none =>
 match opq E.T t m o.op with
 | some (c,v) => req c (k v m)
 | none =>
  match opa E.T t o.op with
  | some (ob,r) => k (r m.length) (m ++ [ob])
  | none =>
   match opst E.T t m o.op with
   | some m' => if o.dst.isNone then k .any m' else none
   | none =>
    match opap E.T t m o.op with
    | some (e,m') => req e (k (.row (m'.length - 1)) m')
    | none =>
    match opan E.T t m o.op with
    | some (e,m') => req e (k (.row (m'.length - 1)) m')
    | none =>
    match opsl E.T t m o.op with
    | some (e,m') => req e (k (.row (m'.length - 1)) m')
    | none =>
    match oprd E.T t m o.op with
    | some r => (geti r.l r.i).bind fun a => match r.val a with | some v => k v m | none => none
    | none =>
    match opsr E.T t m o.op with
    | some r => if o.dst.isNone then ((geti r.l r.i).bind fun a => match r.k.upd a r.off r.xs with | some b => k .any (r.mem m b) | none => none) else none
    | none =>
    match opsn E.T t m o.op with
    | some r => if o.dst.isNone then req r.c ((geti r.l r.i).bind fun a => match r.k.upd a r.off r.xs with | some b => k .any (r.mem m b) | none => none) else none
    | none =>
    match zq1290 E t o.op with
    | some (g,args) => g.tr X args m k
    | none => none
def opx (E : Env) (t : List SV) (o : Oper) (m : Mem) (k : SV → Mem → Option X) : Option X :=
 match pre t m o.op with
 | some (c,s,m') => req c (opx0 E (t.set s (.row (m'.length - 1))) o m' fun v m2 => k v (post E.T t m.length o.op m2))
 | none => opx0 E t o m fun v m2 => k v (post E.T t m.length o.op m2)
def opxq (E : Env) (t : List SV) (o : Oper) (m : Mem) (k : SV → Option X) : Option X :=
 match opq E.T t m o.op with
 | some (c,v) => req c (k v)
 | none =>
  match oprd E.T t m o.op with
  | some r => (geti r.l r.i).bind fun a => match r.val a with | some v => k v | none => none
  | none =>
  match zq1290 E t o.op with
  | some (g,args) => if g.q then g.tr X args m (fun v _ => k v) else none
  | none => none
def dsts (l : List Oper) : List (Option Nat) := l.map (·.dst)
theorem zq729 (l : List Oper) (j : Nat) : ((dsts l)[j]?).bind id = (l[j]?).bind (·.dst) := by
 simp only [dsts,zc31]
 cases l[j]? <;> rfl
open Classical in
/-- Both, if they are the same. -/
def both (a b : Option X) : Option X := if a = b then a else none
def opnc (T : Nat → TI) (t : List SV) (m : Mem) : Op → Option (Bool × C)
 | .binOp o ty x (.const (.slice none 0 0)) _ =>
  match (T ty).known,(T ty).kind,ev t x with
  | true,.slice,.row j => (match m[j]? with | some (.row c _ _) => if isEql o then some (false,c) else if isNeq o then some (true,c) else none | _ => none)
  | _,_,_ => none
 | _ => none
def nilB (n : Nat) (a b : Option X) : Option X := match n with | 0 => both a b | _ + 1 => b
def opsx (E : Env) (all : List (Option Nat)) (n : St → Option X) : List Oper → St → Option X
 | [],s => n s
 | o :: r,s =>
  match o.guard with
  | none =>
   match opnc E.T s.t s.m o.op with
   | some (neg,c) => nilB c.n (opsx E all n r ⟨put s.t o.dst (.b (!neg)),s.m⟩) (opsx E all n r ⟨put s.t o.dst (.b neg),s.m⟩)
   | none => opx E s.t o s.m fun v m => opsx E all n r ⟨put s.t o.dst v,m⟩
  | some (j,want) =>
   match (all[j]?).bind id with
   | none => none
   | some d =>
    match s.t.getD d .any with
    | .b e =>
     match want with
     | true => br e (opx E (s.t.set d (.b true)) o s.m fun v m => opsx E all n r ⟨put (s.t.set d (.b true)) o.dst v,m⟩) (opsx E all n r ⟨put (s.t.set d (.b false)) o.dst .undef,s.m⟩)
     | false => br e (opsx E all n r ⟨put (s.t.set d (.b true)) o.dst .undef,s.m⟩) (opx E (s.t.set d (.b false)) o s.m fun v m => opsx E all n r ⟨put (s.t.set d (.b false)) o.dst v,m⟩)
    | .undef => opsx E all n r ⟨put s.t o.dst .undef,s.m⟩
    | _ => none
def opsxq (E : Env) (all : List (Option Nat)) (n : St → Option X) (m : Mem) : List Oper → List SV → Option X
 | [],t => n ⟨t,m⟩
 | o :: r,t =>
  match o.guard with
  | none => opxq E t o m fun v => opsxq E all n m r (put t o.dst v)
  | some (j,want) =>
   match (all[j]?).bind id with
   | none => none
   | some d =>
    match t.getD d .any with
    | .b e =>
     match want with
     | true => br e (opxq E (t.set d (.b true)) o m fun v => opsxq E all n m r (put (t.set d (.b true)) o.dst v)) (opsxq E all n m r (put (t.set d (.b false)) o.dst .undef))
     | false => br e (opsxq E all n m r (put (t.set d (.b true)) o.dst .undef)) (opxq E (t.set d (.b false)) o m fun v => opsxq E all n m r (put (t.set d (.b false)) o.dst v))
    | .undef => opsxq E all n m r (put t o.dst .undef)
    | _ => none
def zq1504 (E : Env) : Op → Bool
 | .box _ _ | .alloc _ | .store _ _ _ | .buildSlice _ _ _ | .makeSlice _ _ _ | .makeMap _ _ | .mapUpdate _ _ _ _ | .mapEntry _ _ _ | .entryStore _ _ _ _ | .insert _ _ _ _ | .panic _ | .defer _ | .go _ => false
 | .slice ty _ _ _ _ => (match (E.T ty).kind with | .str => true | _ => false)
 | .call c => (match c.callee with
  | .builtin .len => true
  | .builtin .min => true
  | .builtin _ => false
  | .value (.func f) => (match E.call f with | some g => g.q | none => false)
  | .value _ => true
  | .invoke _ _ => false)
 | _ => true
def zq957 : Operand → Bool
 | .const (.bool _) => true
 | _ => false
def zq815 : List Oper → Nat → Option (Nat × Nat)
 | [],_ => none
 | o :: r,i =>
  match o.op,o.guard,o.dst with
  | .pick _ a b,none,some d => if zq957 a || zq957 b then some (i + 1,d) else none
  | _,_,_ => zq815 r (i + 1)
def segQ (E : Env) (o : Oper) : Bool :=
 match o.op with
 | .binOp _ _ _ (.const (.slice none 0 0)) _ => false
 | .call c => (match c.callee with | .value (.tmp _) => false | _ => zq1504 E o.op)
 | _ => zq1504 E o.op
def segOf (E : Env) (l : List Oper) : Option (List Oper × Nat × List Oper) :=
 match zq815 l 0 with
 | some (k,d) => if (l.take k).all (segQ E) then some (l.take k,d,l.drop k) else none
 | none => none
def slotB (d : Nat) (s : St) : Option Bool := match s.t.getD d .any with | .b e => some e | _ => none
def zq577 : List (Option Nat) → List SV → List SV
 | [],t => t
 | some d :: r,t => zq577 r (t.set d .any)
 | none :: r,t => zq577 r t
def opsxj (E : Env) (all : List (Option Nat)) (n : St → Option X) : Nat → List Oper → St → Option X
 | 0,l,s => opsx E all n l s
 | _ + 1,[],s => n s
 | f + 1,o :: r,s =>
  match o.guard with
  | none =>
   match opcl E.T s.t s.m o r with
   | some c => req c.ok (opsxj E all n f r.tail ⟨put s.t o.dst .any,c.mem s.m⟩)
   | none =>
   match opnc E.T s.t s.m o.op with
   | some (neg,c) => nilB c.n (opsxj E all n f r ⟨put s.t o.dst (.b (!neg)),s.m⟩) (opsxj E all n f r ⟨put s.t o.dst (.b neg),s.m⟩)
   | none => opx E s.t o s.m fun v m => opsxj E all n f r ⟨put s.t o.dst v,m⟩
  | some _ =>
   match segOf E (o :: r) with
   | some (l1,d,l2) => (opsxq E all (slotB d) s.m l1 s.t).bind fun b => opsxj E all n f l2 ⟨(zq577 (dsts l1) s.t).set d (.b b),s.m⟩
   | none => opsx E all n (o :: r) s
def zq1324 (E : Env) (all : List (Option Nat)) (n : St → Option X) (m : Mem) : Nat → List Oper → List SV → Option X
 | 0,l,t => opsxq E all n m l t
 | _ + 1,[],t => n ⟨t,m⟩
 | f + 1,o :: r,t =>
  match o.guard with
  | none => opxq E t o m fun v => zq1324 E all n m f r (put t o.dst v)
  | some _ =>
   match segOf E (o :: r) with
   | some (l1,d,l2) => (opsxq E all (slotB d) m l1 t).bind fun b => zq1324 E all n m f l2 ((zq577 (dsts l1) t).set d (.b b))
   | none => opsxq E all n m (o :: r) t
def stepC (E : Env) (ops : Array Oper) (i : Nat) (s : St) (k : St → Option X) : Option X :=
 match ops[i]? with
 | none => none
 | some o =>
  match o.guard with
  | none => opx E s.t o s.m fun v m => k ⟨put s.t o.dst v,m⟩
  | some (j,want) =>
   match (ops[j]?).bind (·.dst) with
   | none => none
   | some d =>
    match s.t.getD d .any with
    | .b e =>
     match want with
     | true => br e (opx E (s.t.set d (.b true)) o s.m fun v m => k ⟨put (s.t.set d (.b true)) o.dst v,m⟩) (k ⟨put (s.t.set d (.b false)) o.dst .undef,s.m⟩)
     | false => br e (k ⟨put (s.t.set d (.b true)) o.dst .undef,s.m⟩) (opx E (s.t.set d (.b false)) o s.m fun v m => k ⟨put (s.t.set d (.b false)) o.dst v,m⟩)
    | .undef => k ⟨put s.t o.dst .undef,s.m⟩
    | _ => none
def zq891 (E : Env) : Op → Bool
 | .store _ _ _ => false
 | .buildSlice ty _ _ => (E.T (E.T ty).elem).nk.isNone
 | .slice ty _ _ _ _ => (match (E.T ty).kind with | .str => true | _ => false)
 | .call c => (match c.callee with
  | .builtin .len => true
  | .builtin .min => true
  | .builtin _ => false
  | .value (.func f) => (match E.call f with | some g => g.law | none => false)
  | .value _ => false
  | .invoke _ _ => false)
 | _ => true
def regOp : Op → Bool
 | .move _ | .assign _ | .pick _ _ _ | .binOp _ _ _ _ _ | .unOp _ _ _ | .extract _ _ | .build _ _ | .field _ _ _ | .makeFunc _ _ _ | .index _ _ _ => true
 | _ => false
def zq1843 (acc : List Nat) (o : Oper) : Nat := o.after.toList.foldl (fun s e => if Region.binds .any e then s ||| 2 ^ e.on ||| acc.getD e.on 0 else s) 0
def waitL : List Oper → List Nat → List Nat
 | [],acc => acc
 | o :: r,acc => waitL r (acc ++ [zq1843 acc o])
def zq1695 (E : Env) (ops : Array Oper) (i : Nat) : Bool :=
 match ops[i]? with
 | none => false
 | some oi => (List.range ops.size).all fun j => j == i || ((waitL ops.toList []).getD j 0).testBit i || ((waitL ops.toList []).getD i 0).testBit j || (match ops[j]? with | some oj => (regOp oi.op || zq891 E oj.op) && oi.apart ops oj | none => true)
def zq1539 (t : List SV) (op : Op) : List Nat := refsL (op.operands.toList.map (ev t))
def zq1790 (t : List SV) (R : List Nat) : Op → Bool
 | .store _ (.tmp d) _ => (match t.getD d .any with | .ptr j _ => !R.contains j | _ => false)
 | _ => false
def zq1678 (ops : Array Oper) (listed : Array Bool) : Op → Bool
 | .store _ (.tmp d) _ => (List.range ops.size).all fun k => listed.getD k false || (match ops[k]? with | some ok => ok.dst != some d | none => true)
 | _ => true
def zq504 (m : Mem) (R : List Nat) : Bool := R.all fun q => match m[q]? with | some (.blk _ _ _) => true | _ => false
def rowOp : Op → Bool
 | .slice _ _ _ _ _ => true
 | .call c => (match c.callee with | .builtin .append => true | _ => false)
 | _ => false
def zq1694 (E : Env) (ops : Array Oper) (listed : Array Bool) (s : St) (i : Nat) : Bool :=
 match ops[i]? with
 | none => false
 | some oi => (zq1539 s.t oi.op).all (fun q => decide (q < s.m.length)) && (List.range ops.size).all fun j => j == i || listed.getD j false || ((waitL ops.toList []).getD j 0).testBit i || ((waitL ops.toList []).getD i 0).testBit j || (match ops[j]? with | some oj => (zq891 E oj.op || (zq1790 s.t (zq1539 s.t oi.op) oj.op && zq1678 ops listed oj.op) || (zq504 s.m (zq1539 s.t oi.op) && rowOp oj.op)) && oi.apart ops oj | none => true)
def zq958 (E : Env) (ops : Array Oper) (i : Nat) (s : St) : Bool :=
 match ops[i]? with
 | none => false
 | some o => (opnil E.T o.type o.op).isNone && (opnl E.T [] [] o.type o.op).isNone && ((opq E.T s.t s.m o.op).isSome || (!regOp o.op && (oprd E.T s.t s.m o.op).isSome))
def allB : List Nat → (Nat → Option X) → Option X
 | [],_ => none
 | [i],f => f i
 | i :: j :: r,f => both (f i) (allB (j :: r) f)
def dup : Nat → Option X → Option X
 | 0,a => a
 | n + 1,a => both a (dup n a)
def anyX (E : Env) (ops : Array Oper) (n : St → Option X) : Nat → Array Bool → St → Option X
 | 0,_,_ => none
 | fuel + 1,listed,s =>
  match Region.ready .any ops listed with
  | [] => n s
  | i :: r =>
   match (i :: r).find? (fun j => (zq1695 E ops j || zq1694 E ops listed s j) && zq958 E ops j s) with
   | some j => stepC E ops j s fun s' => anyX E ops n fuel (listed.setIfInBounds j true) s'
   | none => allB (i :: r) fun j => stepC E ops j s fun s' => anyX E ops n fuel (listed.setIfInBounds j true) s'
def lawE (E : Env) : Env := { E with call := fun f => match E.call f with | some g => if g.det then some g else none | none => none }
def regId : Code → Nat
 | .region i _ _ => i
 | .seq a _ => regId a
 | .block _ b => regId b
 | .loop b => regId b
 | .cond _ a _ => regId a
 | _ => 0
end
def zq666 : Operand → Nat
 | .tmp t => t
 | _ => BIG
def joinE {X : Type} (n : St → Option X) (e : Nat → St → Option X) : Nat → St → Option X := fun i s' => bif Nat.beq i BIG then n s' else e i s'
def ix {X : Type} (E : Env) (base : Nat) : Code → St → (St → Option X) → (Nat → St → Option X) → (St → Option X) → Option X
 | .skip,s,n,_,_ => n s
 | .region _ ops false,s,n,_,_ => opsxj E (dsts ops.toList) n ops.toList.length ops.toList s
 | .seq a b,s,n,e,r => ix E base a s (fun s' => ix E base b s' n e r) e r
 | .cond c a b,s,n,e,r =>
  match ev s.t c with
  | .b x =>
   match E.cond (zq666 c) with
   | some js =>
    (br x (ix E base a s (outF js.n base js.exits (some BIG)) (fun i s' => bif Nat.beq i BIG then none else outF js.n base js.exits (some i) s') (outF js.n base js.exits none))
     (ix E base b s (outF js.n base js.exits (some BIG)) (fun i s' => bif Nat.beq i BIG then none else outF js.n base js.exits (some i) s') (outF js.n base js.exits none))).bind fun y => goOn js.n (joinE n e) r js.exits y
   | none => br x (ix E base a s n e r) (ix E base b s n e r)
  | _ => none
 | .block i b,s,n,e,r => ix E base b s n (fun j s' => bif j == i then n s' else e j s') r
 | .loop b,s,_,e,r => match E.loop (regId b) with | some l => l X base s e r | none => none
 | .exit i,s,_,e,_ => e i s
 | .ret,s,_,_,r => r s
 | .region _ ops true,s,n,_,_ =>
  bif ops.toList.all (fun o => zq1504 E o.op) then (if Region.lexB .any ops then zq1324 E (dsts ops.toList) n s.m ops.toList.length ops.toList s.t else none)
  else bif Region.noSelect ops then anyX (lawE E) ops n (ops.size + 1) (Array.replicate ops.size false) s else none
 | _,_,_,_,_ => none
section
variable {X : Type}
def ixF (E : Env) (fn : Func) (args : List SV) (m : Mem) (k : SV → Mem → Option X) : Option X :=
 match fn.body with
 | some c => ix E m.length c ⟨args ++ List.replicate (fn.ntmps - args.length) .any,m⟩ (fin E.T fn.results.toList k) (fun _ _ => none) (fin E.T fn.results.toList k)
 | none => none
end
end Go.Ma
namespace Go.Ma
open Go Go.RowKit
def RowIs (w : World) (v : Value) (n sz : Nat) (cells : List Value) : Prop :=
 cells.length = n * sz ∧ ∃ A cap,v = .slice A n cap ∧ n ≤ cap ∧ cap ≤ maxLen ∧ (A = none → n = 0) ∧
  ∀ a,A = some a → (0 < cap → a.block < w.heap.size) ∧ ∀ j u,cells[j]? = some u → w.cell? (a.add j) = some u
def zq1831 : Value → Option Nat
 | .pointer (some a) => some a.block
 | .slice (some a) _ _ => some a.block
 | _ => none
def zq1832 : Value → List Nat
 | .tuple vs => vs.toList.filterMap zq1831
 | v => (zq1831 v).toList
def ObjIs (W : World) (w : World) (ρ : Nat → Value) (v : Value) : Obj → Prop
 | .dead none => True
 | .dead (some (n,i)) => 0 ≤ i ∧ ∃ vs : List Value,v = .tuple vs.toArray ∧ ρ n = .tuple (vs.set i.toNat (.slice none 0 0)).toArray
 | .ghost => ∀ b,b ∈ zq1832 v → b < w.heap.size
 | .blk cs ty own => ∃ (b : Nat) (arr : Array Value),v = .pointer (some ⟨b,0,none⟩) ∧ (own = true → W.heap.size ≤ b) ∧ w.heap[b]? = some (.cells arr ty (0,0)) ∧ arr.size = cs.length ∧
   ∀ (i : Nat) (sv : SV),cs[i]? = some sv → sv.isAny = false → arr[i]? = some (den ρ sv)
 | .row c ty own => 0 < c.sz ∧ (∀ u ∈ c.den ρ,oneC u = true) ∧
   if own then w.ownsRow W.heap.size ty c.sz v c.n (c.den ρ) else RowIs w v c.n c.sz (c.den ρ)
 | .bag k ls ty own fr => ∃ vs : List Value,v = .tuple vs.toArray ∧ vs.length = ls.length ∧
   (∀ (i : Nat) (x : Value) (l : List k.T),vs[i]? = some x → ls[i]? = some l → if own then w.ownsRow W.heap.size ty k.sz x l.length ((C.ty k l).den ρ) else RowIs w x l.length k.sz ((C.ty k l).den ρ)) ∧
   (own = true → ∀ (i j : Nat) (x y : Value) (b : Nat),i ≠ j → vs[i]? = some x → vs[j]? = some y → zq1831 x = some b → zq1831 y ≠ some b) ∧
   (fr = true → ∀ x ∈ vs,∀ b,zq1831 x = some b → W.heap.size ≤ b)
def Obj.mutB : Obj → Bool
 | .blk _ _ own => own
 | .row _ _ own => own
 | .bag _ _ _ own _ => own
 | .dead _ => false
 | .ghost => true
def zq1517 : Value → Option Nat
 | .slice _ _ 0 => none
 | v => zq1831 v
def zq1518 : Value → List Nat
 | .tuple vs => vs.toList.filterMap zq1517
 | v => (zq1517 v).toList
def Obj.deadB : Obj → Bool
 | .dead _ => true
 | _ => false
def Obj.blocks (o : Obj) (v : Value) : List Nat := if o.mutB then zq1832 v else zq1518 v
theorem zq1526 {v : Value} {b : Nat} (h : zq1517 v = some b) : zq1831 v = some b := by
 unfold zq1517 at h
 split at h
 ·cases h
 ·exact h
theorem zq1524 {a : Addr} {n cap : Nat} (h : 0 < cap) : zq1517 (.slice (some a) n cap) = some a.block := by
 cases cap with
 | zero => omega
 | succ c => rfl
theorem zq1525 {v : Value} {b : Nat} (h : b ∈ zq1518 v) : b ∈ zq1832 v := by
 cases v <;> simp only [zq1518,zq1832,List.mem_filterMap,Option.mem_toList] at h ⊢
 case tuple vs =>
  obtain ⟨x,hx,hb⟩ := h
  exact ⟨x,hx,zq1526 hb⟩
 all_goals exact zq1526 h
theorem zq508 {o : Obj} {v : Value} {b : Nat} (h : b ∈ o.blocks v) : b ∈ zq1832 v := by
 unfold Obj.blocks at h
 split at h
 ·exact h
 ·exact zq1525 h
theorem zq506 {o : Obj} (hm : o.mutB = true) (v : Value) : o.blocks v = zq1832 v := by simp [Obj.blocks,hm]
theorem zq1521 {o : Obj} {v : Value} {b : Nat} (h : b ∈ zq1518 v) : b ∈ o.blocks v := by
 unfold Obj.blocks
 split
 ·exact zq1525 h
 ·exact h
theorem zq1523 {v : Value} {b : Nat} (hv : ∀ vs,v ≠ .tuple vs) : b ∈ zq1518 v ↔ zq1517 v = some b := by
 cases v <;> first | (exfalso; exact hv _ rfl) | simp [zq1518]
theorem zq1211 {v : Value} {b : Nat} (h : zq1517 v = some b) : b ∈ zq1518 v := by
 cases v <;> simp_all [zq1517,zq1831,zq1518]
theorem zq1208 {v : Value} {b : Nat} (h : zq1831 v = some b) : b ∈ zq1832 v := by
 cases v <;> simp_all [zq1831,zq1832]
theorem zq507 {v : Value} {b : Nat} (hv : ∀ vs,v ≠ .tuple vs) : b ∈ zq1832 v ↔ zq1831 v = some b := by
 cases v <;> first | (exfalso; exact hv _ rfl) | simp [zq1832]
def Obj.lt (n : Nat) : Obj → Bool
 | .dead none => true
 | .dead (some (j,_)) => decide (j < n)
 | .ghost => true
 | .blk cs _ _ => cs.all fun c => c.isAny || c.lt n
 | .row c _ _ => c.lt n
 | .bag _ _ _ _ _ => true
structure RelM (W : World) (ρ : Nat → Value) (m : Mem) (w : World) : Prop where
 below : Below W.heap.size W w
 obj : ∀ (j : Nat) (o : Obj),m[j]? = some o → ObjIs W w ρ (ρ j) o
 sep : ∀ (i j : Nat) (o o' : Obj),i ≠ j → m[i]? = some o → m[j]? = some o' → o.mutB = true → (o' matches .dead _) = false → ∀ b,b ∈ zq1832 (ρ i) → b ∉ o'.blocks (ρ j)
 lt : ∀ (j : Nat) (o : Obj),m[j]? = some o → o.lt m.length = true
structure RelT (ρ : Nat → Value) (n : Nat) (t : List SV) (a : Act) : Prop where
 size : a.tmps.size = t.length
 slot : ∀ (i : Nat) (sv : SV),t[i]? = some sv → sv.isAny = false → sv.lt n = true ∧ a.tmps[i]? = some (den ρ sv)
structure RelS (W : World) (ρ : Nat → Value) (s : St) (a : Act) (w : World) : Prop where
 t : RelT ρ s.m.length s.t a
 m : RelM W ρ s.m w
 d : a.defers = []
def Agree (n : Nat) (ρ ρ' : Nat → Value) : Prop := ∀ j,j < n → ρ' j = ρ j
def pow10s : List Int := (List.range 20).map fun i => ((10 ^ i : Nat) : Int)
def zq1385 : List Int := [0,1,56,2,57,49,28,3,61,58,42,50,38,29,17,4,62,47,59,36,45,43,51,22,53,39,33,30,24,18,12,5,63,55,48,27,60,41,37,16,46,35,44,21,52,32,23,11,54,26,40,15,34,20,31,10,25,14,19,9,13,8,7,6]
structure Glob (P : Program) (w : World) : Prop where
 num : ∀ g, P.globalNamed "internal/bytealg.MaxLen" = some g → ∃ m, w.cell? ⟨g, 0, none⟩ = some (.int .i64 m)
 err : ∀ n g, (n = "strconv.ErrSyntax" ∨ n = "strconv.ErrRange") → P.globalNamed n = some g → ∃ ev, w.cell? ⟨g, 0, none⟩ = some ev ∧ (ev = .nilIface ∨ ∃ te pe, ev = .iface te pe)
 pow : ∀ g, P.globalNamed "internal/strconv.uint64pow10" = some g → ∃ t z, w.heap[g]? = some (.cells (pow10s.map (Value.int .u64)).toArray t z)
 ctz : ∀ g, P.globalNamed "math/bits.deBruijn64tab" = some g → ∃ t z, w.heap[g]? = some (.cells (zq1385.map (Value.int .u8)).toArray t z)
theorem zq541 {W w : World} (h : Below W.heap.size W w) {g i : Nat} {v : Value} (hv : W.cell? ⟨g,i,none⟩ = some v) : w.cell? ⟨g,i,none⟩ = some v := by
 have hg : g < W.heap.size := by
  have h2 := hv
  unfold World.cell? at h2
  cases hb : W.heap[g]? with
  | none => rw [hb] at h2; cases h2
  | some o => exact (zc27.1 hb).1
 have hb := h.block g hg
 unfold World.cell? at hv ⊢
 rw [hb]
 exact hv
theorem Glob.mono {P : Program} {W w : World} (h : Glob P W) (hb : Below W.heap.size W w) : Glob P w :=
 ⟨fun g hg => by obtain ⟨m,hm⟩ := h.num g hg; exact ⟨m,zq541 hb hm⟩,fun n g hn hg => by obtain ⟨ev,he,h2⟩ := h.err n g hn hg; exact ⟨ev,zq541 hb he,h2⟩,fun g hg => by
  obtain ⟨t,z,h1⟩ := h.pow g hg
  exact ⟨t,z,(hb.block g (zc27.1 h1).1).trans h1⟩,fun g hg => by
  obtain ⟨t,z,h1⟩ := h.ctz g hg
  exact ⟨t,z,(hb.block g (zc27.1 h1).1).trans h1⟩⟩
theorem Glob.none {P : Program} {W : World} (h0 : P.globalNamed "internal/bytealg.MaxLen" = none) (h1 : P.globalNamed "strconv.ErrSyntax" = none) (h2 : P.globalNamed "strconv.ErrRange" = none) (h3 : P.globalNamed "internal/strconv.uint64pow10" = none) (h4 : P.globalNamed "math/bits.deBruijn64tab" = none) : Glob P W :=
 ⟨fun g hg => (by rw [h0] at hg; cases hg),fun n g hn hg => (by rcases hn with rfl | rfl <;> simp_all),fun g hg => (by rw [h3] at hg; cases hg),fun g hg => (by rw [h4] at hg; cases hg)⟩
structure Ctx where
 P : Program
 W : World
structure CallN (G : Ctx) (f : FuncId) (args : List SV) (m : Mem) (k : SV → Mem → Prop) : Prop where
 call : ltL m.length args = true → ∀ ρ w,RelM G.W ρ m w → Calls G.P f (denL ρ args).toArray w fun e w' => ∃ ρ' r m',e = .returned (den ρ' r) ∧ RelM G.W ρ' m' w' ∧ Agree m.length ρ ρ' ∧ m.length ≤ m'.length ∧ (r.isAny = false → r.lt m'.length = true) ∧ k r m'
structure CodeN (G : Ctx) (base : Nat) (c : Code) (s : St) (n : St → Prop) (e : Nat → St → Prop) (r : St → Prop) : Prop where
 code : base ≤ s.m.length → ∀ ρ a w (Q : Exit → Act → World → Prop),RelS G.W ρ s a w →
  (∀ ρ' s' a' w',Agree base ρ ρ' → base ≤ s'.m.length → RelS G.W ρ' s' a' w' → n s' → Q .normal a' w') →
  (∀ i ρ' s' a' w',Agree base ρ ρ' → base ≤ s'.m.length → RelS G.W ρ' s' a' w' → e i s' → Q (.exit i) a' w') →
  (∀ ρ' s' a' w',Agree base ρ ρ' → base ≤ s'.m.length → RelS G.W ρ' s' a' w' → r s' → Q .ret a' w') →
  c.wp G.P Q a w
structure QCallN (G : Ctx) (f : FuncId) (args : List SV) (m : Mem) (k : SV → Prop) : Prop where
 ex : ltL m.length args = true → ∃ r : SV,r.lt m.length = true ∧ (∀ ρ w,RelM G.W ρ m w → Calls G.P f (denL ρ args).toArray w fun e w' => e = .returned (den ρ r) ∧ RelM G.W ρ m w') ∧ k r
theorem zq711 (ρ : Nat → Value) : ∀ l : List SV,denL ρ l = l.map (den ρ)
 | [] => rfl
 | x :: r => by simp [denL,zq711 ρ r]
theorem zq1191 (n : Nat) : ∀ l : List SV,ltL n l = l.all (SV.lt n)
 | [] => rfl
 | x :: r => by simp [ltL,zq1191 n r]
@[simp] theorem zq710 (ρ : Nat → Value) (l : List SV) : (denL ρ l).length = l.length := by simp [zq711]
mutual
theorem den_agree {n : Nat} {ρ ρ' : Nat → Value} (h : Agree n ρ ρ') : ∀ sv : SV,sv.lt n = true → den ρ' sv = den ρ sv
 | .b _,_ => rfl
 | .i _ _,_ => rfl
 | .s _,_ => rfl
 | .v _,_ => rfl
 | .any,_ => rfl
 | .undef,_ => rfl
 | .ptr j off,hl => by simp only [den]; rw [h j (by simpa [SV.lt] using hl)]
 | .row j,hl => by simp only [den]; rw [h j (by simpa [SV.lt] using hl)]
 | .ep j e sz off,hl => by simp only [den]; rw [h j (by simpa [SV.lt] using hl)]
 | .inn j i,hl => by simp only [den]; rw [h j (by simpa [SV.lt] using hl)]
 | .iep j i e sz off,hl => by simp only [den]; rw [h j (by simpa [SV.lt] using hl)]
 | .agg l,hl => by simp only [den]; rw [zq708 h l (by simpa [SV.lt] using hl)]
 | .tup l,hl => by simp only [den]; rw [zq708 h l (by simpa [SV.lt] using hl)]
 | .fn f l,hl => by simp only [den]; rw [zq708 h l (by simpa [SV.lt] using hl)]
theorem zq708 {n : Nat} {ρ ρ' : Nat → Value} (h : Agree n ρ ρ') : ∀ l : List SV,ltL n l = true → denL ρ' l = denL ρ l
 | [],_ => rfl
 | x :: r,hl => by
  simp only [ltL,zc4] at hl
  simp only [denL]
  rw [den_agree h x hl.1,zq708 h r hl.2]
end
mutual
theorem lt_mono {n n' : Nat} (h : n ≤ n') : ∀ sv : SV,sv.lt n = true → sv.lt n' = true
 | .b _,_ => rfl
 | .i _ _,_ => rfl
 | .s _,_ => rfl
 | .v _,_ => rfl
 | .any,_ => rfl
 | .undef,_ => rfl
 | .ptr j off,hl => by simp only [SV.lt,decide_eq_true_eq] at *; omega
 | .row j,hl => by simp only [SV.lt,decide_eq_true_eq] at *; omega
 | .ep j e sz off,hl => by simp only [SV.lt,decide_eq_true_eq] at *; omega
 | .inn j i,hl => by simp only [SV.lt,decide_eq_true_eq] at *; omega
 | .iep j i e sz off,hl => by simp only [SV.lt,decide_eq_true_eq] at *; omega
 | .agg l,hl => by simp only [SV.lt] at *; exact zq1192 h l hl
 | .tup l,hl => by simp only [SV.lt] at *; exact zq1192 h l hl
 | .fn f l,hl => by simp only [SV.lt] at *; exact zq1192 h l hl
theorem zq1192 {n n' : Nat} (h : n ≤ n') : ∀ l : List SV,ltL n l = true → ltL n' l = true
 | [],_ => rfl
 | x :: r,hl => by
  simp only [ltL,zc4] at *
  exact ⟨lt_mono h x hl.1,zq1192 h r hl.2⟩
end
theorem zq709 (ρ ρ' : Nat → Value) : ∀ (k : K) (a : k.T),denL ρ' (k.enc a) = denL ρ (k.enc a) := by
 intro k a; cases k <;> rfl
theorem zq1233 (ρ ρ' : Nat → Value) (k : K) (v : Value) : ∀ (l : List k.T) (i : Nat),zq1230 ρ' k v l i = zq1230 ρ k v l i
 | [],_ => rfl
 | a :: r,i => by simp only [zq1230]; rw [zq709 ρ ρ' k a,zq1233 ρ ρ' k v r]
theorem C.den_agree {n : Nat} {ρ ρ' : Nat → Value} (h : Agree n ρ ρ') : ∀ c : C,c.lt n = true → c.den ρ' = c.den ρ
 | .ty k l,_ => by simp only [C.den]; congr 1; funext a; exact zq709 ρ ρ' k a
 | .sv xs _ _,hl => by simp only [C.den]; exact zq708 h xs hl
 | .nest k l j,hl => by simp only [C.den]; rw [h j (by simpa [C.lt] using hl)]; exact zq1233 ρ ρ' k _ l 0
theorem C.lt_mono {n n' : Nat} (h : n ≤ n') : ∀ c : C,c.lt n = true → c.lt n' = true
 | .ty _ _,_ => rfl
 | .sv xs _ _,hl => zq1192 h xs hl
 | .nest k l j,hl => by simp only [C.lt,decide_eq_true_eq] at *; omega
theorem C.len_n (c : C) : c.len = (c.n : Int) := by cases c <;> rfl
theorem Obj.lt_mono {n n' : Nat} (h : n ≤ n') : ∀ o : Obj,o.lt n = true → o.lt n' = true
 | .dead none,_ => rfl
 | .dead (some (j,_)),hl => by simp only [Obj.lt,decide_eq_true_eq] at *; omega
 | .ghost,_ => rfl
 | .blk cs ty own,hl => by
  simp only [Obj.lt,zc17,Bool.or_eq_true] at *
  exact fun c hc => (hl c hc).imp id (Ma.lt_mono h c)
 | .row c _ _,hl => by simp only [Obj.lt] at *; exact C.lt_mono h c hl
 | .bag _ _ _ _ _,_ => rfl
theorem Agree.refl (n : Nat) (ρ : Nat → Value) : Agree n ρ ρ := fun _ _ => rfl
theorem Agree.mono {n n' : Nat} {ρ ρ' : Nat → Value} (h : Agree n ρ ρ') (hn : n' ≤ n) : Agree n' ρ ρ' := fun j hj => h j (by omega)
theorem Agree.trans {n n' : Nat} {ρ ρ' ρ'' : Nat → Value} (h : Agree n ρ ρ') (h' : Agree n' ρ' ρ'') (hn : n ≤ n') : Agree n ρ ρ'' :=
 fun j hj => (h' j (by omega)).trans (h j hj)
theorem ObjIs.still {W W' w w' : World} {ρ : Nat → Value} {v : Value} {o : Obj} (h : ObjIs W w ρ v o) (hd : o.deadB = true) : ObjIs W' w' ρ v o := by
 cases o <;> first | (cases hd; done) | skip
 rename_i g
 rcases g with _ | ⟨n,i⟩ <;> exact h
theorem ObjIs.agree {W w : World} {n : Nat} {ρ ρ' : Nat → Value} (h : Agree n ρ ρ') {v : Value} : ∀ {o : Obj},o.lt n = true → ObjIs W w ρ v o → ObjIs W w ρ' v o
 | .dead none,_,_ => trivial
 | .dead (some (j,i)),hl,⟨h0,vs,h1,h2⟩ => ⟨h0,vs,h1,by rw [h j (by simpa [Obj.lt] using hl)]; exact h2⟩
 | .ghost,_,h' => h'
 | .blk cs ty own,hl,⟨b,arr,h1,h2,h3,h4,h5⟩ => by
  refine ⟨b,arr,h1,h2,h3,h4,fun i sv hi hs => ?_⟩
  rw [h5 i sv hi hs]
  simp only [Obj.lt,zc17,Bool.or_eq_true] at hl
  have := (hl sv (zc5 hi)).resolve_left (by simp [hs])
  rw [den_agree h sv this]
 | .row c ty own,hl,⟨h1,h0,h3⟩ => by
  simp only [Obj.lt] at hl
  refine ⟨h1,by rw [C.den_agree h c hl]; exact h0,?_⟩
  rw [C.den_agree h c hl]
  exact h3
 | .bag k ls ty own fr,_,⟨vs,h1,h2,h3,h4⟩ => by
  refine ⟨vs,h1,h2,fun i x l hi hl => ?_,h4⟩
  have e : (C.ty k l).den ρ' = (C.ty k l).den ρ := by simp only [C.den]; congr 1; funext a; exact zq709 ρ ρ' k a
  rw [e]
  exact h3 i x l hi hl
theorem zq505 (a : Addr) (n : Nat) : (a.add n).block = a.block := by unfold Addr.add; split <;> rfl
theorem zq897 {w : World} {b : Nat} {o : Go.Obj} (h : w.heap[b]? = some o) : b < w.heap.size := by
 rcases Nat.lt_or_ge b w.heap.size with h' | h'
 ·exact h'
 ·rw [Array.getElem?_eq_none h'] at h; cases h
theorem RowIs.keep {w w' : World} {v : Value} {n sz : Nat} {cells : List Value} (hb : ∀ b,zq1517 v = some b → b < w.heap.size → w'.heap[b]? = w.heap[b]?) (hs : w.heap.size ≤ w'.heap.size) (h3 : RowIs w v n sz cells) : RowIs w' v n sz cells := by
 obtain ⟨hl,A,cap,hv,hn,hc,hz,hA⟩ := h3
 refine ⟨hl,A,cap,hv,hn,hc,hz,fun a ha => ?_⟩
 obtain ⟨hlt,hcell⟩ := hA a ha
 subst hv ha
 refine ⟨fun h => by have := hlt h; omega,fun j u hu => ?_⟩
 have hcap : 0 < cap := by
  rcases Nat.eq_zero_or_pos cap with h0 | h0
  ·have : n = 0 := by omega
   rw [this,Nat.zero_mul] at hl
   rw [List.eq_nil_of_length_eq_zero hl] at hu
   simp at hu
  ·exact h0
 rw [World.cell?_of_block (w := w) (by rw [zq505]; exact hb a.block (zq1524 hcap) (hlt hcap))]
 exact hcell j u hu
theorem zq1373 {w w' : World} {base : Nat} {ty : TypeId} {sz : Nat} {v : Value} {n : Nat} {xs : List Value} (hb : ∀ b,zq1831 v = some b → b < w.heap.size → w'.heap[b]? = w.heap[b]?) (h3 : w.ownsRow base ty sz v n xs) : w'.ownsRow base ty sz v n xs := by
 obtain ⟨hl,h⟩ := h3
 refine ⟨hl,h.imp id ?_⟩
 rintro ⟨g,cap,cur,hv,hg,hh,r⟩
 subst hv
 exact ⟨g,cap,cur,rfl,hg,by rw [hb g rfl (zq897 hh)]; exact hh,r⟩
theorem zq1374 {w : World} {base : Nat} {ty : TypeId} {sz : Nat} {v : Value} {n : Nat} {xs : List Value} (h : w.ownsRow base ty sz v n xs) {b : Nat} (hb : zq1831 v = some b) : base ≤ b ∧ b < w.heap.size := by
 rcases h.2 with ⟨rfl,_⟩ | ⟨g,cap,cur,hv',hg,hh,r⟩
 ·simp [zq1831] at hb
 ·subst hv'
  simp only [zq1831,zc2] at hb
  subst hb
  exact ⟨hg,zq897 hh⟩
theorem RowIs.lt {w : World} {v : Value} {n sz : Nat} {cells : List Value} (h : RowIs w v n sz cells) {b : Nat} (hb : zq1517 v = some b) : b < w.heap.size := by
 obtain ⟨_,A,cap,hv,_,_,_,hA⟩ := h
 subst hv
 cases A with
 | none => have := zq1526 hb; simp [zq1831] at this
 | some a =>
  cases cap with
  | zero => cases hb
  | succ c =>
   have hb := zq1526 hb
   simp only [zq1831,zc2] at hb
   subst hb
   exact (hA a rfl).1 (by omega)
theorem ObjIs.keep {W w w' : World} {ρ : Nat → Value} {v : Value} {o : Obj} (hb : ∀ b,b ∈ o.blocks v → b < w.heap.size → w'.heap[b]? = w.heap[b]?) (hs : w.heap.size ≤ w'.heap.size) (h : ObjIs W w ρ v o) : ObjIs W w' ρ v o := by
 cases o with
 | dead g => exact h.still rfl
 | ghost => exact fun b hb' => by have h' := h b hb'; omega
 | blk cs ty own =>
  obtain ⟨b,arr,h1,h2,h3,h4,h5⟩ := h
  subst h1
  exact ⟨b,arr,rfl,h2,by rw [hb b (zq1521 (zq1211 rfl)) (zq897 h3)]; exact h3,h4,h5⟩
 | row c ty own =>
  obtain ⟨h1,h0,h3⟩ := h
  refine ⟨h1,h0,?_⟩
  cases own
  ·simp only [zc16,if_false] at h3 ⊢
   exact h3.keep (fun b hv hlt => hb b (zq1521 (zq1211 hv)) hlt) hs
  ·simp only [if_true] at h3 ⊢
   exact zq1373 (fun b hv hlt => hb b (by rw [zq506 rfl]; exact zq1208 hv) hlt) h3
 | bag k ls ty own fr =>
  obtain ⟨vs,h1,h2,h3,h4⟩ := h
  subst h1
  refine ⟨vs,rfl,h2,fun i x l hi hl => ?_,h4⟩
  have := h3 i x l hi hl
  cases own
  ·simp only [zc16,if_false] at this ⊢
   exact this.keep (fun b hv hlt => hb b (zq1521 (by
    simp only [zq1518,List.mem_filterMap]
    exact ⟨x,zc5 hi,hv⟩)) hlt) hs
  ·simp only [if_true] at this ⊢
   exact zq1373 (fun b hv hlt => hb b (by
    rw [zq506 rfl]
    simp only [zq1832,List.mem_filterMap]
    exact ⟨x,zc5 hi,hv⟩) hlt) this
theorem RelM.later {W : World} {ρ : Nat → Value} {m : Mem} {w w' : World} (h : RelM W ρ m w) (hb : Below w.heap.size w w') : RelM W ρ m w' :=
 ⟨h.below.trans (hb.mono h.below.size),fun j o hj => (h.obj j o hj).keep (fun b _ hlt => hb.block b hlt) hb.size,h.sep,h.lt⟩
theorem RelM.drawn {W : World} {ρ : Nat → Value} {m : Mem} {w : World} (h : RelM W ρ m w) (n : Nat) : RelM W ρ m { w with drawn := n } :=
 h.later ⟨rfl,rfl,rfl,zc47 _,fun _ _ => rfl⟩
theorem ObjIs.lt_heap {W w : World} {ρ : Nat → Value} {v : Value} {b : Nat} : ∀ {o : Obj},b ∈ o.blocks v → (o matches .dead _) = false → ObjIs W w ρ v o → b < w.heap.size := by
 intro o hv hd h
 cases o with
 | dead g => cases hd
 | ghost => exact h b (zq508 hv)
 | blk cs ty own =>
  obtain ⟨b',arr,h1,h2,h3,h4,h5⟩ := h
  subst h1
  have hv := (zq507 (fun vs h => by cases h)).1 (zq508 hv)
  simp only [zq1831,zc2] at hv
  subst hv
  exact zq897 h3
 | row c ty own =>
  obtain ⟨h1,h0,h3⟩ := h
  cases own
  ·simp only [zc16,if_false] at h3
   have hs : ∀ vs,v ≠ .tuple vs := fun vs e => by
    obtain ⟨_,A,cap,h,_⟩ := h3
    rw [e] at h
    cases h
   exact h3.lt ((zq1523 hs).1 (by simpa [Obj.blocks,Obj.mutB] using hv))
  ·simp only [if_true] at h3
   have hs : ∀ vs,v ≠ .tuple vs := fun vs e => by
    rcases h3.2 with ⟨h,_⟩ | ⟨g,cap,cur,h,_⟩ <;> (rw [e] at h; cases h)
   exact (zq1374 h3 ((zq507 hs).1 (zq508 hv))).2
 | bag k ls ty own fr =>
  obtain ⟨vs,h1,h2,h3,h4⟩ := h
  subst h1
  have key : ∀ x ∈ vs,∃ l : List k.T,if own = true then w.ownsRow W.heap.size ty k.sz x l.length ((C.ty k l).den ρ) else RowIs w x l.length k.sz ((C.ty k l).den ρ) := fun x hx => by
   obtain ⟨i,hi⟩ := zc30.1 hx
   have hil : i < ls.length := by rw [← h2]; exact (zc1.1 hi).1
   exact ⟨_,h3 i x _ hi (zc0 hil)⟩
  cases own
  ·have hv : b ∈ zq1518 (.tuple vs.toArray) := by simpa [Obj.blocks,Obj.mutB] using hv
   simp only [zq1518,List.mem_filterMap] at hv
   obtain ⟨x,hx,hv⟩ := hv
   obtain ⟨l,hl⟩ := key x (by simpa using hx)
   exact RowIs.lt (by simpa using hl) hv
  ·have hv := zq508 hv
   simp only [zq1832,List.mem_filterMap] at hv
   obtain ⟨x,hx,hv⟩ := hv
   obtain ⟨l,hl⟩ := key x (by simpa using hx)
   exact (zq1374 (by simpa using hl) hv).2
def upd (ρ : Nat → Value) (n : Nat) (v : Value) : Nat → Value := fun j => if j = n then v else ρ j
theorem zq1830 (ρ : Nat → Value) (n : Nat) (v : Value) : upd ρ n v n = v := by simp [upd]
theorem zq1828 (ρ : Nat → Value) (n : Nat) (v : Value) : Agree n ρ (upd ρ n v) := fun j hj => by simp [upd]; omega
theorem RelM.pushG {W : World} {ρ : Nat → Value} {m : Mem} {w w' : World} (h : RelM W ρ m w) (hb : Below w.heap.size w w') {o : Obj} {v : Value} (ho : ObjIs W w' ρ v o) (hl : o.lt m.length = true)
  (h1' : ∀ (i : Nat) (oi : Obj),m[i]? = some oi → oi.mutB = true → ∀ b,b ∈ zq1832 (ρ i) → b ∉ o.blocks v) (h2' : o.mutB = true → ∀ (i : Nat) (oi : Obj),m[i]? = some oi → (oi matches .dead _) = false → ∀ b,b ∈ zq1832 v → b ∉ oi.blocks (ρ i)) :
  RelM W (upd ρ m.length v) (m ++ [o]) w' := by
 have hk := h.later hb
 have ha := zq1828 ρ m.length v
 refine ⟨hk.below,fun j o' hj => ?_,fun i j o1 o2 hij hi hj hm hd b hbi hbj => ?_,fun j o' hj => ?_⟩
 ·rw [zc29] at hj
  split at hj
  ·rename_i hlt
   rw [ha j hlt]
   exact (hk.obj j o' hj).agree ha (h.lt j o' hj)
  ·rename_i hge
   have : j = m.length := by
    have : j - m.length < 1 := by
     have := zc1.1 hj
     obtain ⟨hx,_⟩ := this
     simpa using hx
    omega
   subst this
   simp only [Nat.sub_self,List.getElem?_cons_zero,zc2] at hj
   subst hj
   rw [zq1830]
   exact ho.agree ha hl
 ·have key : ∀ {k : Nat} {o3 : Obj},(m ++ [o])[k]? = some o3 → (k < m.length ∧ m[k]? = some o3) ∨ (k = m.length ∧ o3 = o) := by
   intro k o3 hk3
   rw [zc29] at hk3
   split at hk3
   ·rename_i hlt; exact .inl ⟨hlt,hk3⟩
   ·right
    have hx := zc1.1 hk3
    obtain ⟨hx,hy⟩ := hx
    simp only [zc21,List.length_nil] at hx
    have : k = m.length := by omega
    subst this
    simp at hy
    exact ⟨rfl,hy.symm⟩
  rcases key hi with ⟨hil,hi'⟩ | ⟨rfl,rfl⟩ <;> rcases key hj with ⟨hjl,hj'⟩ | ⟨rfl,rfl⟩
  ·rw [ha i hil] at hbi
   rw [ha j hjl] at hbj
   exact h.sep i j o1 o2 hij hi' hj' hm hd b hbi hbj
  ·rw [ha i hil] at hbi
   rw [zq1830] at hbj
   exact h1' i o1 hi' hm b hbi hbj
  ·rw [ha j hjl] at hbj
   rw [zq1830] at hbi
   exact h2' hm j o2 hj' hd b hbi hbj
  ·exact hij rfl
 ·rw [zc29] at hj
  split at hj
  ·exact Obj.lt_mono (by simp) o' (h.lt j o' hj)
  ·have : o' = o := by
    have := zc5 hj
    simpa using this
   subst this
   exact Obj.lt_mono (by simp) o' hl
theorem zq1227 : ∀ {o : Obj},o.mutB = true → (o matches .dead _) = false := by
 intro o h
 cases o <;> first | rfl | cases h
theorem RelM.push {W : World} {ρ : Nat → Value} {m : Mem} {w w' : World} (h : RelM W ρ m w) (hb : Below w.heap.size w w') {o : Obj} {v : Value} (ho : ObjIs W w' ρ v o) (hl : o.lt m.length = true)
  (hnew : ∀ b,b ∈ o.blocks v → w.heap.size ≤ b) : RelM W (upd ρ m.length v) (m ++ [o]) w' :=
 h.pushG hb ho hl (fun i oi hi hmu b hb1 hb2 => by
  have h1 := hnew b hb2
  have h2 : b < w.heap.size := ObjIs.lt_heap (by rw [zq506 hmu]; exact hb1) (zq1227 hmu) (h.obj i oi hi)
  omega) (fun hmo i oi hi hd b hb1 hb2 => by
  have h1 := hnew b (by rw [zq506 hmo]; exact hb1)
  have h2 : b < w.heap.size := ObjIs.lt_heap hb2 hd (h.obj i oi hi)
  omega)
theorem RelM.alloc {W : World} {ρ : Nat → Value} {m : Mem} {w : World} (h : RelM W ρ m w) {cs : List SV} {ty : TypeId} {arr : Array Value} (hs : arr.size = cs.length)
  (hc : ∀ (i : Nat) (sv : SV),cs[i]? = some sv → sv.isAny = false → sv.lt m.length = true ∧ arr[i]? = some (den ρ sv)) :
  RelM W (upd ρ m.length (.pointer (some ⟨w.heap.size,0,none⟩))) (m ++ [.blk cs ty true]) (w.alloc (.cells arr ty)) := by
 refine h.push ((Below.refl _ _).alloc (zc47 _) _) ⟨w.heap.size,arr,rfl,fun _ => h.below.size,by show (w.heap.push _)[w.heap.size]? = _; simp,hs,fun i sv hi ha => (hc i sv hi ha).2⟩ ?_ ?_
 ·simp only [Obj.lt,zc17,Bool.or_eq_true]
  intro c hcm
  obtain ⟨i,hi⟩ := zc30.1 hcm
  cases hany : c.isAny
  ·exact .inr (hc i c hi hany).1
  ·exact .inl rfl
 ·intro b hb
  have hb := (zq507 (fun vs h => by cases h)).1 (zq508 hb)
  simp only [zq1831,zc2] at hb
  omega
theorem zq1608 (w : World) (b o : Nat) (v : Value) (c : Array Value) (t : TypeId) (fz : Nat × Nat) (h : w.heap[b]? = some (.cells c t fz)) :
  (w.setCell ⟨b,o,none⟩ v).heap[b]? = some (.cells (c.setIfInBounds o v) t fz) := by
 simp [World.setCell,Array.getElem?_modify,h]
def zq1605 (c : Array Value) : Nat → List Value → Array Value
 | _,[] => c
 | o,v :: r => zq1605 (c.setIfInBounds o v) (o + 1) r
theorem zq1607 (c : Array Value) (o : Nat) (vs : List Value) : (zq1605 c o vs).size = c.size := by
 induction vs generalizing c o with
 | nil => rfl
 | cons v r ih => simp [zq1605,ih]
theorem zq1606 (c : Array Value) (o : Nat) (vs : List Value) (i : Nat) (h : o + vs.length ≤ c.size) :
  (zq1605 c o vs)[i]? = if o ≤ i ∧ i < o + vs.length then vs[i - o]? else c[i]? := by
 induction vs generalizing c o with
 | nil => simp [zq1605]; omega
 | cons v r ih =>
  simp only [zc21] at h
  simp only [zq1605]
  rw [ih _ _ (by simp; omega)]
  by_cases h1 : o + 1 ≤ i ∧ i < o + 1 + r.length
  ·rw [if_pos h1,if_pos (by simp only [zc21]; omega)]
   rw [show i - o = (i - (o + 1)) + 1 by omega]
   rfl
  ·rw [if_neg h1]
   by_cases h2 : i = o
   ·rw [if_pos (by simp only [zc21]; omega),h2,Array.getElem?_setIfInBounds_self_of_lt (by omega)]
    simp
   ·rw [if_neg (by simp only [zc21]; omega)]
    rw [Array.getElem?_setIfInBounds_ne (by omega)]
theorem zq1609 (w : World) (b : Nat) (o : Nat) (vs : List Value) (c : Array Value) (t : TypeId) (fz : Nat × Nat) (h : w.heap[b]? = some (.cells c t fz)) :
  (w.setCells b o vs).heap[b]? = some (.cells (zq1605 c o vs) t fz) ∧ (∀ k,k ≠ b → (w.setCells b o vs).heap[k]? = w.heap[k]?) ∧
   (w.setCells b o vs).heap.size = w.heap.size ∧ (w.setCells b o vs).os = w.os ∧ (w.setCells b o vs).tape = w.tape ∧ (w.setCells b o vs).output = w.output := by
 induction vs generalizing w o c with
 | nil => exact ⟨h,fun _ _ => rfl,rfl,rfl,rfl,rfl⟩
 | cons v r ih =>
  obtain ⟨h1,h2,h3,h4,h5,h6⟩ := ih (w.setCell ⟨b,o,none⟩ v) (o + 1) (c.setIfInBounds o v) (zq1608 w b o v c t fz h)
  refine ⟨h1,fun k hk => (h2 k hk).trans (Below.heap_setCell w ⟨b,o,none⟩ v k hk),h3.trans (by simp [World.setCell]),h4.trans rfl,h5.trans rfl,h6.trans rfl⟩
theorem RelM.store {W : World} {ρ : Nat → Value} {m : Mem} {w : World} (h : RelM W ρ m w) {j : Nat} {cs : List SV} {ty : TypeId} (hj : m[j]? = some (.blk cs ty true)) {off : Nat} {xs : List SV}
  (hlen : off + xs.length ≤ cs.length) (hx : ltL m.length xs = true) (b : Nat) (hb : ρ j = .pointer (some ⟨b,0,none⟩)) :
  RelM W ρ (m.set j (.blk (zq812 cs off xs) ty true)) (w.setCells b off (denL ρ xs)) := by
 obtain ⟨b',arr,h1,h2,h3,h4,h5⟩ := h.obj j _ hj
 have : b' = b := by rw [hb] at h1; injection h1 with h1; injection h1 with h1; injection h1 with h1; exact h1.symm
 subst this
 obtain ⟨s1,s2,s3,s4,s5,s6⟩ := zq1609 w b' off (denL ρ xs) arr ty (0,0) h3
 have hjl : j < m.length := (zc1.1 hj).1
 have hfl : (zq812 cs off xs).length = cs.length := by simp [zq812]; omega
 have hfg : ∀ i : Nat,(zq812 cs off xs)[i]? = if off ≤ i ∧ i < off + xs.length then xs[i - off]? else cs[i]? := by
  intro i
  unfold zq812
  rw [List.append_assoc,zc29]
  simp only [zc20]
  rw [Nat.min_eq_left (by omega)]
  split
  ·rw [if_neg (by omega),zc14,if_pos (by omega)]
  ·rw [zc29]
   split
   ·rw [if_pos (by omega)]
   ·rw [if_neg (by omega),zc39]
    congr 1
    omega
 have hset : ∀ (k : Nat) (o : Obj),(m.set j (.blk (zq812 cs off xs) ty true))[k]? = some o → (k = j ∧ o = .blk (zq812 cs off xs) ty true) ∨ (k ≠ j ∧ m[k]? = some o) := by
  intro k o hk
  by_cases hkj : k = j
  ·subst hkj
   rw [zc23 hjl] at hk
   injection hk with hk
   exact .inl ⟨rfl,hk.symm⟩
  ·rw [zc15 (by omega)] at hk
   exact .inr ⟨hkj,hk⟩
 refine ⟨⟨s4.trans h.below.os,s5.trans h.below.tape,s6.trans h.below.output,by rw [s3]; exact h.below.size,fun k hk => (s2 k (by have := h2 rfl; omega)).trans (h.below.block k hk)⟩,fun k o hk => ?_,fun i k o1 o2 hik hi hk hm hd => ?_,fun k o hk => ?_⟩
 ·rcases hset k o hk with ⟨rfl,rfl⟩ | ⟨hne,hk⟩
  ·refine ⟨b',_,hb,h2,s1,by rw [zq1607,h4,hfl],fun i sv hi hany => ?_⟩
   rw [zq1606 _ _ _ _ (by simp; omega)]
   rw [hfg] at hi
   simp only [zq710]
   split
   ·rename_i hin
    rw [if_pos hin] at hi
    rw [zq711,zc31,hi]
    rfl
   ·rename_i hin
    rw [if_neg hin] at hi
    exact h5 i sv hi hany
  ·cases hdd : o.deadB
   ·refine (h.obj k o hk).keep (fun b2 hb2 hlt => s2 b2 ?_) (by rw [s3]; omega)
    intro e
    subst e
    exact h.sep j k _ o (by omega) hj hk rfl hdd b2 (by rw [hb]; exact zq1208 rfl) hb2
   ·exact (h.obj k o hk).still hdd
 ·have hi' : ∃ o1',m[i]? = some o1' ∧ o1'.mutB = true := by
   rcases hset i o1 hi with ⟨rfl,rfl⟩ | ⟨hne,hi⟩
   ·exact ⟨_,hj,rfl⟩
   ·exact ⟨_,hi,hm⟩
  have hk' : ∃ o2',m[k]? = some o2' ∧ (o2' matches .dead _) = false ∧ o2.blocks = o2'.blocks := by
   rcases hset k o2 hk with ⟨rfl,rfl⟩ | ⟨hne,hk⟩
   ·exact ⟨_,hj,rfl,rfl⟩
   ·exact ⟨_,hk,hd,rfl⟩
  obtain ⟨o1',hi',hm'⟩ := hi'
  obtain ⟨o2',hk',hd',hbl⟩ := hk'
  rw [hbl]
  exact h.sep i k o1' o2' hik hi' hk' hm' hd'
 ·rw [zc43]
  rcases hset k o hk with ⟨rfl,rfl⟩ | ⟨hne,hk⟩
  ·have hcs := h.lt k _ hj
   simp only [Obj.lt,zc17,Bool.or_eq_true] at hcs ⊢
   intro c hc
   simp only [zq812,List.mem_append] at hc
   rcases hc with (hc | hc) | hc
   ·exact hcs c (List.mem_of_mem_take hc)
   ·rw [zq1191,zc17] at hx
    exact .inr (hx c hc)
   ·exact hcs c (List.mem_of_mem_drop hc)
  ·exact h.lt k o hk
end Go.Ma
namespace Go.Ma
open Go Go.RowKit
structure zq329 (P : Program) (t : TypeId) (ti : TI) : Prop where
 ex : ∃ i d z,P.info? t = some i ∧ P.underlying t = some d ∧ i.zero = some z ∧ ti.size = i.size ∧ ti.zero = z.cells.toList ∧
  ti.agg = (match d with | .struct _ | .array _ _ => true | _ => false) ∧
  (∀ k,ti.kind = .int k → d = .int k) ∧ (ti.kind = .bool → d = .bool) ∧ (ti.kind = .str → d = .string) ∧ (ti.kind = .slice → d = .slice ti.elem) ∧
  (ti.kind = .struct → ∃ fs,d = .struct fs ∧ ti.fields = fs.toList.map fun f => (f.offset,f.type)) ∧ ti.bytes = i.bytes
theorem zq1822 {P : Program} {t : TypeId} {ti : TI} (h : ti.known = true) (he : { ti with eq := false,k := none,nk := none,sl := [] } = tiOf P t) : zq329 P t ti := by
 have e1 : ti.known = (tiOf P t).known := by rw [← he]
 have e2 : ti.kind = (tiOf P t).kind := by rw [← he]
 have e3 : ti.agg = (tiOf P t).agg := by rw [← he]
 have e4 : ti.size = (tiOf P t).size := by rw [← he]
 have e5 : ti.zero = (tiOf P t).zero := by rw [← he]
 have e6 : ti.fields = (tiOf P t).fields := by rw [← he]
 have e7 : ti.elem = (tiOf P t).elem := by rw [← he]
 have e8 : ti.bytes = (tiOf P t).bytes := by rw [← he]
 clear he
 rw [e1] at h
 unfold tiOf at h e2 e3 e4 e5 e6 e7 e8
 cases hi : P.info? t with
 | none => simp [hi] at h
 | some i =>
  cases hd : P.underlying t with
  | none => simp [hi,hd] at h
  | some d =>
   simp only [hi,hd] at h e2 e3 e4 e5 e6 e7 e8
   obtain ⟨z,hz⟩ := Option.isSome_iff_exists.1 h
   refine ⟨i,d,z,hi,hd,hz,e4,by rw [e5,hz],by rw [e3] <;> (cases d <;> rfl),?_,?_,?_,?_,?_,e8⟩
   ·intro k hk; rw [e2] at hk; cases d <;> simp at hk; subst hk; rfl
   ·intro hk; rw [e2] at hk; cases d <;> simp at hk; rfl
   ·intro hk; rw [e2] at hk; cases d <;> simp at hk; rfl
   ·intro hk; rw [e2] at hk; cases d <;> simp at hk; rw [e7]
   ·intro hk; rw [e2] at hk; cases d <;> simp at hk; exact ⟨_,rfl,e6⟩
section
variable {P : Program} {t : TypeId} {ti : TI} (h : zq329 P t ti) (w : World)
include h
theorem zq329.isAgg : (isAgg t).run P w = .ok ti.agg w := by
 obtain ⟨i,d,z,hi,hd,hz,h1,h2,h3,_⟩ := h.ex
 simp only [Go.isAgg,Sem.run_bind,run_underlying hd w,Result.andThen_ok]
 rw [h3]
 cases d <;> rfl
theorem zq329.sizeOf : (sizeOf t).run P w = .ok ti.size w := by
 obtain ⟨i,d,z,hi,hd,hz,h1,h2,h3,_⟩ := h.ex
 simp [Go.sizeOf,typeInfo,hi,h1]
theorem zq329.zero : ∃ z,(zeroValue t).run P w = .ok z w ∧ z.cells.toList = ti.zero := by
 obtain ⟨i,d,z,hi,hd,hz,h1,h2,h3,_⟩ := h.ex
 exact ⟨z,by simp [zeroValue,typeInfo,hi,hz],h2.symm⟩
end
theorem zq712 (ρ : Nat → Value) (v : Value) : den ρ (ofC v) = v := by cases v <;> rfl
theorem zq713 (ρ : Nat → Value) (v : Value) : den ρ (ofV v) = v := by
 cases v with
 | agg cs =>
  simp only [ofV,den,zq711,List.map_map]
  congr 1
  rw [show (den ρ ∘ ofC) = id from funext (zq712 ρ),List.map_id]
 | _ => rfl
theorem zq1267 (n : Nat) (v : Value) : (ofC v).lt n = true := by cases v <;> rfl
theorem ofV_lt (n : Nat) (v : Value) : (ofV v).lt n = true := by
 cases v with
 | agg cs => simp [ofV,SV.lt,zq1191,zq1267]
 | _ => rfl
theorem RelT.ev {ρ : Nat → Value} {n : Nat} {t : List SV} {a : Act} (h : RelT ρ n t a) (x : Operand) (hx : (ev t x).isAny = false) : (Ma.ev t x).lt n = true ∧ a.eval x = den ρ (Ma.ev t x) := by
 cases x with
 | tmp i =>
  simp only [Ma.ev,zc3] at hx ⊢
  cases hi : t[i]? with
  | none => simp [hi,SV.isAny] at hx
  | some sv =>
   simp only [hi,Option.getD_some] at hx ⊢
   obtain ⟨h1,h2⟩ := h.slot i sv hi hx
   exact ⟨h1,by simp [Act.eval,h2]⟩
 | const v => exact ⟨ofV_lt n v,(zq713 ρ v).symm⟩
 | global g => exact ⟨rfl,rfl⟩
 | func f => exact ⟨rfl,rfl⟩
theorem zq1804 {cs l : List SV} {off n : Nat} (h : zq1803 cs off n = some l) : l = (cs.drop off).take n ∧ l.length = n ∧ (∀ i,i < n → cs[off + i]? = l[i]?) ∧ (∀ c ∈ l,c.one = true) := by
 unfold zq1803 at h
 split at h
 ·cases h
 ·rename_i hlen
  split at h
  ·rename_i hall
   injection h with h
   subst h
   refine ⟨rfl,by simp; omega,fun i hi => by rw [zc14,if_pos hi,zc39],fun c hc => zc17.1 hall c hc⟩
  ·cases h
theorem zq1280 {c : SV} (h : c.one = true) : c.isAny = false := by cases c <;> simp_all [SV.one,SV.isAny]
theorem one_cells {c : SV} (h : c.one = true) : c.cells = [c] := by cases c <;> simp_all [SV.one,SV.cells]
theorem zq1282 {ρ : Nat → Value} {c : SV} (h : c.one = true) : oneC (den ρ c) = true := by
 cases c with
 | ptr j off => simp only [den,zq1465]; split <;> rfl
 | row j => simp only [den,zq1637]; split <;> rfl
 | ep j e sz off => simp only [den,zq734]; split <;> rfl
 | inn j i => simp only [den,innV,zq1637]; split <;> (try split) <;> (try split) <;> rfl
 | iep j i e sz off => simp only [den,zq734]; split <;> rfl
 | v x => simpa [SV.one,den] using h
 | _ => first | rfl | simp_all [SV.one]
theorem zq1281 {ρ : Nat → Value} {c : SV} (h : c.cells.all (·.one) = true) (hany : c.isAny = false) : (den ρ c).cells.toList = denL ρ c.cells := by
 cases c with
 | agg l => simp [den,Value.cells,SV.cells]
 | any => cases hany
 | tup l => simp [SV.cells,SV.one] at h
 | v x =>
  simp only [SV.cells,List.all_cons,List.all_nil,Bool.and_true,SV.one] at h
  cases x <;> simp_all [den,Value.cells,SV.cells,denL,oneC]
 | ptr j off => simp only [den,zq1465,SV.cells,denL]; split <;> rfl
 | row j => simp only [den,zq1637,SV.cells,denL]; split <;> rfl
 | ep j e sz off => simp only [den,zq734,SV.cells,denL]; split <;> rfl
 | inn j i => simp only [den,innV,zq1637,SV.cells,denL]; split <;> (try split) <;> (try split) <;> rfl
 | iep j i e sz off => simp only [den,zq734,SV.cells,denL]; split <;> rfl
 | _ => rfl
theorem zq1279 {v : Value} (h : oneC v = true) : v.oneCell' = true := by cases v <;> simp_all [oneC,Value.oneCell']
theorem zq923 (v : Value) (i : Int) : oneC (innV v i) = true := by simp only [innV,zq1637]; split <;> (try split) <;> (try split) <;> rfl
theorem zq544 {w : World} {b : Nat} {arr : Array Value} {ty : TypeId} (h : w.heap[b]? = some (.cells arr ty (0,0))) (i : Nat) : w.cell? ⟨b,i,none⟩ = arr[i]? := by
 simp [World.cell?,h]
theorem zq396 (b o i : Nat) : (⟨b,o,none⟩ : Addr).add i = ⟨b,o + i,none⟩ := by unfold Addr.add; split <;> simp_all
theorem zq1372 {w : World} {base : Nat} {ty : TypeId} {sz : Nat} {v : Value} {n : Nat} {xs : List Value} (h : w.ownsRow base ty sz v n xs) : RowIs w v n sz xs := by
 have hlt := fun b hb => (zq1374 h (b := b) hb).2
 obtain ⟨hl,h⟩ := h
 rcases h with ⟨hv,hn⟩ | ⟨g,cap,cur,hv,hg,hh,hn,hcap,hsz,hxs⟩
 ·exact ⟨hl,none,0,by rw [hv,hn],by omega,by unfold maxLen; omega,fun _ => hn,fun _ h => by cases h⟩
 ·refine ⟨hl,_,cap,hv,hn,hcap,(fun h => by cases h),fun ad had => ⟨fun _ => hlt ad.block (by rw [hv,had]; rfl),fun i u hu => ?_⟩⟩
  injection had with had
  subst had
  rw [zq396,Nat.zero_add,zq544 hh]
  rw [← hxs,zc14] at hu
  split at hu
  ·rw [zc25] at hu; exact hu
  ·cases hu
theorem ObjIs.inn {W w : World} {ρ : Nat → Value} {v : Value} {k : K} {ls : List (List k.T)} {ty : TypeId} {own fr : Bool} (h : ObjIs W w ρ v (.bag k ls ty own fr)) (i : Int) : RowIs w (innV v i) (getL ls i).length k.sz ((C.ty k (getL ls i)).den ρ) := by
 obtain ⟨vs,rfl,h2,h3,h4⟩ := h
 have hnil : RowIs w (.slice none 0 0) ([] : List k.T).length k.sz ((C.ty k []).den ρ) := ⟨by simp [C.den],none,0,rfl,zc47 _,by unfold maxLen; omega,fun _ => rfl,fun _ h => by cases h⟩
 unfold innV getL
 by_cases h0 : 0 ≤ i
 ·simp only [if_pos h0,zc3]
  cases hi : vs[i.toNat]? with
  | none =>
   rw [List.getElem?_eq_none (by rw [← h2]; exact List.getElem?_eq_none_iff.1 hi)]
   exact hnil
  | some x =>
   have hil : i.toNat < ls.length := by rw [← h2]; exact (zc1.1 hi).1
   have hx := h3 i.toNat x _ hi (zc0 hil)
   rw [zc0 hil]
   simp only [Option.getD_some]
   have hx : RowIs w x ls[i.toNat].length k.sz ((C.ty k ls[i.toNat]).den ρ) := by
    cases own
    ·simpa using hx
    ·simp only [if_true] at hx; exact zq1372 hx
   obtain ⟨_,A,cap,hv,_⟩ := id hx
   rw [show zq1637 x = x by rw [hv]; rfl]
   exact hx
 ·simp only [if_neg h0]
  exact hnil
theorem RelM.inn {W : World} {ρ : Nat → Value} {m : Mem} {w : World} (h : RelM W ρ m w) {j : Nat} {k : K} {ls : List (List k.T)} {ty : TypeId} {own fr : Bool} (hj : m[j]? = some (.bag k ls ty own fr)) (i : Int) :
  RowIs w (den ρ (.inn j i)) (getL ls i).length k.sz ((C.ty k (getL ls i)).den ρ) := (h.obj j _ hj).inn i
theorem RelM.blk {W : World} {ρ : Nat → Value} {m : Mem} {w : World} (h : RelM W ρ m w) {j : Nat} {cs : List SV} {ty : TypeId} {own : Bool} (hj : m[j]? = some (.blk cs ty own)) :
  ∃ (b : Nat) (arr : Array Value),ρ j = .pointer (some ⟨b,0,none⟩) ∧ w.heap[b]? = some (.cells arr ty (0,0)) ∧ arr.size = cs.length ∧ (∀ (i : Nat) (sv : SV),cs[i]? = some sv → sv.isAny = false → arr[i]? = some (den ρ sv)) := by
 obtain ⟨b,arr,h1,_,h3,h4,h5⟩ := h.obj j _ hj
 exact ⟨b,arr,h1,h3,h4,h5⟩
theorem zq543 {w : World} {b : Nat} {arr : Array Value} {ty : TypeId} (h : w.heap[b]? = some (.cells arr ty (0,0))) (i : Nat) : w.cell? ⟨b,i,none⟩ = arr[i]? := by
 simp [World.cell?,h]
theorem zq395 (b o i : Nat) : (⟨b,o,none⟩ : Addr).add i = ⟨b,o + i,none⟩ := by unfold Addr.add; split <;> simp_all
theorem zq1594 {P : Program} {t : TypeId} {ti : TI} (hT : zq329 P t ti) {w : World} {a : Addr} {ρ : Nat → Value} {l : List SV} {v : SV} (hl : l.length = ti.size) (hv : valOf ti l = some v)
  (hc : ∀ (i : Nat) (c : SV),l[i]? = some c → w.cell? (a.add i) = some (den ρ c)) : (loadVar t a).run P w = .ok (den ρ v) w := by
 unfold valOf at hv
 simp only [loadVar,Sem.run_bind,hT.isAgg,Result.andThen_ok]
 cases hagg : ti.agg
 ·simp only [hagg,zc16,if_false] at hv ⊢
  match l,hv with
  | [c],hv =>
   injection hv with hv
   subst hv
   have := hc 0 c rfl
   simp only [Addr.add,if_true] at this
   simp [this]
 ·simp only [hagg,if_true] at hv ⊢
  injection hv with hv
  subst hv
  simp only [Sem.run_bind,hT.sizeOf,Result.andThen_ok]
  have := run_loadCells_list (P := P) w a (denL ρ l) (fun j u hu => by
   rw [zq711,zc31] at hu
   obtain ⟨c,hcj,rfl⟩ := zc7.1 hu
   exact hc j c hcj)
  rw [zq710,hl] at this
  simp [this,den]
end Go.Ma
namespace Go.Ma
open Go Go.RowKit
def veqL : List Value → List Value → Bool
 | [],[] => true
 | .bool x :: r,.bool y :: r' => x == y && veqL r r'
 | .int _ x :: r,.int _ y :: r' => x == y && veqL r r'
 | .string x :: r,.string y :: r' => x.toList == y.toList && veqL r r'
 | _,_ => false
def zq1839 : List Value → List Value → Bool
 | [],[] => true
 | .bool _ :: r,.bool _ :: r' => zq1839 r r'
 | .int k _ :: r,.int k' _ :: r' => decide (k = k') && zq1839 r r'
 | .string _ :: r,.string _ :: r' => zq1839 r r'
 | _,_ => false
def zq328 (P : Program) (t : TypeId) (zero : List Value) : Prop :=
 ∀ (xs ys : List Value) (x y : Operand) (w : World),zq1839 zero xs = true → zq1839 zero ys = true →
  (do eqGuard .eql t x y (.agg xs.toArray) (.agg ys.toArray); binOp .eql t (.agg xs.toArray) (.agg ys.toArray)).run P w = .ok (.bool (veqL xs ys)) w ∧
  (do eqGuard .neq t x y (.agg xs.toArray) (.agg ys.toArray); binOp .neq t (.agg xs.toArray) (.agg ys.toArray)).run P w = .ok (.bool (!veqL xs ys)) w
def zq6 (P : Program) (f : FuncId) : Prop := ∃ fn, P.funcs[f]? = some fn ∧ fn.body.isSome = true ∧ (fn.name == "runtime.NumGoroutine") = false
structure TOk (P : Program) (T : Nat → TI) : Prop where
 ty : ∀ t,(T t).known = true → zq329 P t (T t)
 eq : ∀ t,(T t).eq = true → zq328 P t (T t).zero
 mixed : P.follows .mixedOrders = true
theorem zq980 (ρ : Nat → Value) : ∀ (z : List Value) (a : List SV),zq979 z a = true → zq1839 z (denL ρ a) = true
 | [],[],_ => rfl
 | .bool _ :: r,.b _ :: r',h => by simp only [zq979] at h; simpa [zq1839,denL,den] using zq980 ρ r r' h
 | .int k _ :: r,.i k' _ :: r',h => by simp only [zq979,zc4,decide_eq_true_eq] at h; simpa [zq1839,denL,den,h.1] using zq980 ρ r r' h.2
 | .string _ :: r,.s _ :: r',h => by simp only [zq979] at h; simpa [zq1839,denL,den] using zq980 ρ r r' h
theorem zq751 (ρ : Nat → Value) : ∀ (a b : List SV) (e : Bool),zq750 a b = some e → e = veqL (denL ρ a) (denL ρ b)
 | [],[],e,h => by injection h with h; subst h; rfl
 | x :: r,y :: r',e,h => by
  simp only [zq750] at h
  split at h
  ·cases h
  ·rename_i e1 he1
   have hx : ∀ s s' : List Value,veqL (den ρ x :: s) (den ρ y :: s') = (e1 && veqL s s') := by
    intro s s'
    cases x <;> cases y <;> simp_all [zq749,den,veqL,beqB,acmp,zq1794] <;> subst he1 <;> rfl
   simp only [denL,hx]
   split at h
   ·rename_i hr
    simp only [zc4,List.isEmpty_iff] at hr
    obtain ⟨rfl,rfl⟩ := hr
    injection h with h
    subst h
    simp [denL,veqL]
   ·obtain ⟨f,hf,rfl⟩ := zc7.1 h
    rw [zq751 ρ r r' f hf]
 | [],_ :: _,e,h => by simp [zq750] at h
 | _ :: _,[],e,h => by simp [zq750] at h
theorem add_add' (a : Addr) (i j : Nat) : (a.add i).add j = a.add (i + j) := by
 unfold Addr.add
 by_cases hi : i = 0 <;> by_cases hj : j = 0 <;> simp [hi,hj,Nat.add_assoc]
def QOk (P : Program) (W : World) (ρ : Nat → Value) (m : Mem) (a : Act) (o : Oper) (e : Bool) (v : SV) : Prop :=
 e = true → ∃ x,(v.isAny = false → v.lt m.length = true ∧ x = den ρ v) ∧ ∀ w,RelM W ρ m w → (execOp a.eval o).run P w = .ok (.value x) w
section
variable {P : Program} {T : Nat → TI} {W : World} {ρ : Nat → Value} {m : Mem} {a : Act} {o : Oper} {e : Bool} {v : SV} {t : List SV}
theorem zq1497 {x : Operand} (ho : o.op = .move x ∨ o.op = .assign x) (ht : RelT ρ m.length t a) : QOk P W ρ m a o true (ev t x) := by
 intro _
 refine ⟨a.eval x,fun hv => ht.ev x hv,fun w _ => ?_⟩
 rcases ho with ho | ho <;> simp [execOp,ho]
theorem zq1500 {c x y : Operand} {b : Bool} (ho : o.op = .pick c x y) (ht : RelT ρ m.length t a) (hc : ev t c = .b b) : QOk P W ρ m a o true (if b then ev t x else ev t y) := by
 intro _
 have h1 := (ht.ev c (by rw [hc]; rfl)).2
 rw [hc] at h1
 cases b
 ·refine ⟨a.eval y,fun hv => ht.ev y hv,fun w _ => ?_⟩
  simp [execOp,ho,h1,den,asBool]
 ·refine ⟨a.eval x,fun hv => ht.ev x hv,fun w _ => ?_⟩
  simp [execOp,ho,h1,den,asBool]
theorem zq1495 (hT : TOk P T) {ty : TypeId} {x : Operand} {j off : Nat} {cs l : List SV} {bt : TypeId} {own : Bool} (ho : o.op = .load ty x) (ht : RelT ρ m.length t a) (hx : ev t x = .ptr j off) (hj : m[j]? = some (.blk cs bt own))
  (hk : (T ty).known = true) (hl : zq1803 cs off (T ty).size = some l) (hv : valOf (T ty) l = some v) (hlt : (Obj.blk cs bt own).lt m.length = true) : QOk P W ρ m a o true v := by
 intro _
 have h1 := (ht.ev x (by rw [hx]; rfl)).2
 rw [hx] at h1
 obtain ⟨rfl,hlen,hget,hone⟩ := zq1804 hl
 refine ⟨den ρ v,fun _ => ⟨?_,rfl⟩,fun w hw => ?_⟩
 ·simp only [Obj.lt,zc17,Bool.or_eq_true] at hlt
  have hcl : ∀ c ∈ (cs.drop off).take (T ty).size,c.lt m.length = true := fun c hc => (hlt c (List.mem_of_mem_drop (List.mem_of_mem_take hc))).resolve_left (by simp [zq1280 (hone c hc)])
  unfold valOf at hv
  split at hv
  ·injection hv with hv; subst hv; simp only [SV.lt,zq1191,zc17]; exact hcl
  ·split at hv
   ·rename_i c heq; injection hv with hv; subst hv; exact hcl _ (by rw [heq]; simp)
   ·cases hv
 ·obtain ⟨b,arr,hb,hh,hs,hc⟩ := hw.blk hj
  simp only [den,hb,zq1465,zq395] at h1
  have := zq1594 (hT.ty ty hk) (w := w) (a := ⟨b,0 + off,none⟩) (ρ := ρ) hlen hv (fun i c hi => by
   rw [zq395,zq543 hh]
   have hil : i < (T ty).size := by rw [← hlen]; exact (zc1.1 hi).1
   have := hget i hil
   rw [hi] at this
   rw [Nat.zero_add]
   exact hc _ c this (zq1280 (hone c (zc5 hi))))
  rw [Nat.zero_add] at h1 this
  simp [execOp,ho,h1,Instr.loadAt,Instr.sureAddr,this]
theorem RelM.row {w : World} (h : RelM W ρ m w) {j : Nat} {c : C} {ty : TypeId} {own : Bool} (hj : m[j]? = some (.row c ty own)) :
  0 < c.sz ∧ ∃ A cap,ρ j = .slice A c.n cap ∧ (c.den ρ).length = c.n * c.sz ∧ (A = none → c.n = 0) ∧ c.n ≤ cap ∧ cap ≤ maxLen ∧
   (∀ u ∈ c.den ρ,oneC u = true) ∧ ∀ ad,A = some ad → ∀ (i : Nat) (u : Value),(c.den ρ)[i]? = some u → w.cell? (ad.add i) = some u := by
 obtain ⟨h1,h0,h3⟩ := h.obj j _ hj
 refine ⟨h1,?_⟩
 cases own
 ·simp only [zc16,if_false] at h3
  obtain ⟨hl,A,cap,hv,hn,hc,hz,hA⟩ := h3
  exact ⟨A,cap,hv,hl,hz,hn,hc,h0,fun ad had => (hA ad had).2⟩
 ·simp only [if_true] at h3
  obtain ⟨hl,h⟩ := h3
  rcases h with ⟨hv,hn⟩ | ⟨g,cap,cur,hv,hg,hh,hn,hcap,hsz,hxs⟩
  ·exact ⟨none,0,by rw [hv,hn],hl,fun _ => hn,by omega,by unfold maxLen; omega,h0,fun _ h => by cases h⟩
  ·refine ⟨_,cap,hv,hl,(fun h => by cases h),hn,hcap,h0,fun ad had i u hu => ?_⟩
   injection had with had
   subst had
   rw [zq395,Nat.zero_add,zq543 hh]
   rw [← hxs,zc14] at hu
   split at hu
   ·rw [zc25] at hu; exact hu
   ·cases hu
theorem zq1494 (hT : TOk P T) {ty : TypeId} {x : Operand} {j sz off rsz rn : Nat} {n : Int} {cs l : List SV} {bt : TypeId} {own : Bool} {e : Bool} (ho : o.op = .load ty x) (ht : RelT ρ m.length t a) (hx : ev t x = .ep j n sz off)
  (hj : m[j]? = some (.row (.sv cs rsz rn) bt own)) (hk : (T ty).known = true) (hl : zq1803 cs (n.toNat * sz + off) (T ty).size = some l) (hv : valOf (T ty) l = some v)
  (hsz : 0 < (T ty).size) (hlt : ltL m.length cs = true) : QOk P W ρ m a o e v := by
 intro _
 have h1 := (ht.ev x (by rw [hx]; rfl)).2
 rw [hx] at h1
 obtain ⟨rfl,hlen,hget,hone⟩ := zq1804 hl
 refine ⟨den ρ v,fun _ => ⟨?_,rfl⟩,fun w hw => ?_⟩
 ·rw [zq1191,zc17] at hlt
  have hcl : ∀ c ∈ (cs.drop (n.toNat * sz + off)).take (T ty).size,c.lt m.length = true := fun c hc => hlt c (List.mem_of_mem_drop (List.mem_of_mem_take hc))
  unfold valOf at hv
  split at hv
  ·injection hv with hv; subst hv; simp only [SV.lt,zq1191,zc17]; exact hcl
  ·split at hv
   ·rename_i c heq; injection hv with hv; subst hv; exact hcl _ (by rw [heq]; simp)
   ·cases hv
 ·obtain ⟨hs0,A,cap,hρ,hlen',hnone,_,_,_,hcell⟩ := hw.row hj
  simp only [C.den,zq710,C.n,C.sz] at hlen' hcell hnone hρ
  have hne : 0 < cs.length := by
   have : ((cs.drop (n.toNat * sz + off)).take (T ty).size).length ≤ cs.length := by simp; omega
   omega
  cases A with
  | none => have := hnone rfl; rw [this] at hlen'; omega
  | some ad =>
   simp only [den,hρ,zq734] at h1
   have hrun := zq1594 (hT.ty ty hk) (w := w) (a := (ad.add (n.toNat * sz)).add off) (ρ := ρ) hlen hv (fun i c hi => by
    have hil : i < (T ty).size := by rw [← hlen]; exact (zc1.1 hi).1
    have hg := hget i hil
    rw [hi] at hg
    rw [Ma.add_add',Ma.add_add']
    exact hcell ad rfl _ _ (by rw [zq711,zc31,← Nat.add_assoc,hg]; rfl))
   simp [execOp,ho,h1,Instr.loadAt,Instr.sureAddr,hrun]
theorem zq909 {i n : Int} : zq908 i n = true ↔ 0 ≤ i ∧ i < n := by simp [zq908]
theorem zq1483 (hT : TOk P T) {ty ft : TypeId} {x : Operand} {f off : Nat} {l c : List SV} (ho : o.op = .field ty x f) (ht : RelT ρ m.length t a) (hf : (T ty).fields[f]? = some (off,ft)) (hkd : (T ty).kind = .struct)
  (hx : ev t x = .agg l) (hk : (T ty).known = true) (hkf : (T ft).known = true) (hc : zq1803 l off (T ft).size = some c) (hv : valOf (T ft) c = some v) : QOk P W ρ m a o true v := by
 intro _
 have h0 := ht.ev x (by rw [hx]; rfl)
 rw [hx] at h0
 obtain ⟨h0,h1⟩ := h0
 obtain ⟨rfl,hlen,hget,hone⟩ := zq1804 hc
 simp only [SV.lt,zq1191,zc17] at h0
 refine ⟨den ρ v,fun _ => ⟨?_,rfl⟩,fun w hw => ?_⟩
 ·have hcl : ∀ c ∈ (l.drop off).take (T ft).size,c.lt m.length = true := fun c hc => h0 c (List.mem_of_mem_drop (List.mem_of_mem_take hc))
  unfold valOf at hv
  split at hv
  ·injection hv with hv; subst hv; simp only [SV.lt,zq1191,zc17]; exact hcl
  ·split at hv
   ·rename_i c heq; injection hv with hv; subst hv; exact hcl _ (by rw [heq]; simp)
   ·cases hv
 ·obtain ⟨i,d,z,hi,hd,hz,g1,g2,g3,g4,g5,g6,g7,g8,_⟩ := (hT.ty ty hk).ex
  obtain ⟨fs,rfl,hfs⟩ := g8 hkd
  rw [hfs,zc31] at hf
  obtain ⟨fd,hfd,hfe⟩ := zc7.1 hf
  simp only [zc11] at hfe
  obtain ⟨rfl,rfl⟩ := hfe
  rw [zc25] at hfd
  have hpart : (part fd.type (denL ρ l).toArray fd.offset).run P w = .ok (den ρ v) w := by
   unfold valOf at hv
   simp only [part,Sem.run_bind,(hT.ty _ hkf).isAgg,Result.andThen_ok]
   cases hagg : (T fd.type).agg
   ·simp only [hagg,zc16,if_false] at hv ⊢
    split at hv
    ·rename_i c heq
     injection hv with hv
     subst hv
     have h1len : (T fd.type).size = 1 := by rw [← hlen,heq]; rfl
     have := hget 0 (by omega)
     rw [heq,Nat.add_zero] at this
     simp only [List.getElem?_toArray,zq711,zc31,this]
     simp
    ·cases hv
   ·simp only [hagg,if_true] at hv ⊢
    injection hv with hv
    subst hv
    simp only [Sem.run_bind,(hT.ty _ hkf).sizeOf,Result.andThen_ok,Sem.run_pure,den]
    congr 2
    apply Array.ext'
    simp only [Array.toList_extract,List.extract_eq_drop_take',zq711]
    simp [List.map_take,List.map_drop,List.drop_take]
  simp [execOp,ho,h1,den,Instr.field,run_underlying hd,hfd,asAgg,hpart]
theorem zq329.fieldOf {ty ft : TypeId} {ti : TI} (h : zq329 P ty ti) {f off : Nat} (hf : ti.fields[f]? = some (off,ft)) (hkd : ti.kind = .struct) :
  ∃ (fs : Array Field) (fd : Field),P.underlying ty = some (.struct fs) ∧ fs[f]? = some fd ∧ fd.offset = off ∧ fd.type = ft := by
 obtain ⟨i,d,z,hi,hd,hz,g1,g2,g3,g4,g5,g6,g7,g8,_⟩ := h.ex
 obtain ⟨fs,rfl,hfs⟩ := g8 hkd
 rw [hfs,zc31] at hf
 obtain ⟨fd,hfd,hfe⟩ := zc7.1 hf
 simp only [zc11] at hfe
 rw [zc25] at hfd
 exact ⟨fs,fd,hd,hfd,hfe.1,hfe.2⟩
theorem zq1486 (hT : TOk P T) {ty ft : TypeId} {x : Operand} {f fo j off : Nat} {cs : List SV} {bt : TypeId} {own : Bool} (ho : o.op = .fieldAddr ty x f) (ht : RelT ρ m.length t a) (hf : (T ty).fields[f]? = some (fo,ft)) (hkd : (T ty).kind = .struct)
  (hx : ev t x = .ptr j off) (hj : m[j]? = some (.blk cs bt own)) (hk : (T ty).known = true) (hkf : (T ft).known = true) (hs : (T ft).size ≠ 0) : QOk P W ρ m a o true (.ptr j (off + fo)) := by
 intro _
 have h0 := ht.ev x (by rw [hx]; rfl)
 rw [hx] at h0
 obtain ⟨h0,h1⟩ := h0
 refine ⟨_,fun _ => ⟨by simpa [SV.lt] using h0,rfl⟩,fun w hw => ?_⟩
 obtain ⟨b,arr,hb,hh,_,hc⟩ := hw.blk hj
 obtain ⟨fs,fd,hd,hfd,rfl,rfl⟩ := (hT.ty ty hk).fieldOf hf hkd
 simp only [den,hb,zq1465] at h1 ⊢
 simp [execOp,ho,h1,Instr.fieldAt,run_underlying hd,hfd,Instr.sureAddr,fieldPlace,(hT.ty _ hkf).sizeOf,hs,add_add']
theorem zq1484 (hT : TOk P T) {ty ft : TypeId} {x : Operand} {f fo j off sz : Nat} {e' : Int} {c : C} {bt : TypeId} {own : Bool} (ho : o.op = .fieldAddr ty x f) (ht : RelT ρ m.length t a) (hf : (T ty).fields[f]? = some (fo,ft)) (hkd : (T ty).kind = .struct)
  (hx : ev t x = .ep j e' sz off) (hj : m[j]? = some (.row c bt own)) (hk : (T ty).known = true) (hkf : (T ft).known = true) (hs : (T ft).size ≠ 0) : QOk P W ρ m a o (zq908 e' c.len) (.ep j e' sz (off + fo)) := by
 intro he
 obtain ⟨b1,b2⟩ := zq909.1 he
 rw [C.len_n] at b2
 have h0 := ht.ev x (by rw [hx]; rfl)
 rw [hx] at h0
 obtain ⟨h0,h1⟩ := h0
 refine ⟨_,fun _ => ⟨by simpa [SV.lt] using h0,rfl⟩,fun w hw => ?_⟩
 obtain ⟨hs0,A,cap,hρ,hlen',hnone,_⟩ := RelM.row hw hj
 obtain ⟨ad,rfl⟩ : ∃ ad,A = some ad := by
  cases A with
  | none => have := hnone rfl; omega
  | some ad => exact ⟨ad,rfl⟩
 obtain ⟨fs,fd,hd,hfd,rfl,rfl⟩ := (hT.ty ty hk).fieldOf hf hkd
 simp only [den,hρ,zq734] at h1 ⊢
 simp [execOp,ho,h1,Instr.fieldAt,run_underlying hd,hfd,Instr.sureAddr,fieldPlace,(hT.ty _ hkf).sizeOf,hs,add_add',Nat.add_assoc]
theorem zq1485 (hT : TOk P T) {ty ft : TypeId} {x : Operand} {f fo j off sz : Nat} {i' e' : Int} {k : K} {ls : List (List k.T)} {bt : TypeId} {own fr : Bool} (ho : o.op = .fieldAddr ty x f) (ht : RelT ρ m.length t a) (hf : (T ty).fields[f]? = some (fo,ft)) (hkd : (T ty).kind = .struct)
  (hx : ev t x = .iep j i' e' sz off) (hj : m[j]? = some (.bag k ls bt own fr)) (hk : (T ty).known = true) (hkf : (T ft).known = true) (hs : (T ft).size ≠ 0) : QOk P W ρ m a o (zq908 e' (lenL (getL ls i'))) (.iep j i' e' sz (off + fo)) := by
 intro he
 obtain ⟨b1,b2⟩ := zq909.1 he
 unfold lenL at b2
 have h0 := ht.ev x (by rw [hx]; rfl)
 rw [hx] at h0
 obtain ⟨h0,h1⟩ := h0
 refine ⟨_,fun _ => ⟨by simpa [SV.lt] using h0,rfl⟩,fun w hw => ?_⟩
 obtain ⟨_,A,cap,hρ,_,_,hnone,_⟩ := hw.inn hj i'
 obtain ⟨ad,rfl⟩ : ∃ ad,A = some ad := by
  cases A with
  | none => have := hnone rfl; omega
  | some ad => exact ⟨ad,rfl⟩
 obtain ⟨fs,fd,hd,hfd,rfl,rfl⟩ := (hT.ty ty hk).fieldOf hf hkd
 simp only [den] at hρ
 simp only [den,hρ,zq734] at h1 ⊢
 simp [execOp,ho,h1,Instr.fieldAt,run_underlying hd,hfd,Instr.sureAddr,fieldPlace,(hT.ty _ hkf).sizeOf,hs,add_add',Nat.add_assoc]
theorem zq1477 {bo : BinOp} {ty yt : TypeId} {x y : Operand} {k : IntKind} {ex ey : Int} (ho : o.op = .binOp bo ty x y yt) (ht : RelT ρ m.length t a) (hx : ev t x = .i k ex) (hy : ev t y = .i k ey)
  (hn : bo ≠ .shl ∧ bo ≠ .shr) (hq : (bo = .quo ∨ bo = .rem) → e = true → ey ≠ 0) : QOk P W ρ m a o e (if isCmp bo then .b (acmp bo ex ey) else .i k (aop bo k ex ey)) := by
 intro he
 have h1 := (ht.ev x (by rw [hx]; rfl)).2
 have h2 := (ht.ev y (by rw [hy]; rfl)).2
 rw [hx] at h1; rw [hy] at h2
 simp only [den] at h1 h2
 refine ⟨_,fun _ => ⟨by split <;> rfl,rfl⟩,fun w hw => ?_⟩
 have hz : (bo = .quo ∨ bo = .rem) → ey ≠ 0 := fun h => hq h he
 cases bo
 case quo => simp [execOp,ho,h1,h2,eqGuard,binOp,isCmp,den,aop,Op.intDiv,hz]
 case rem => simp [execOp,ho,h1,h2,eqGuard,binOp,isCmp,den,aop,Op.intDiv,hz]
 case shl => exact absurd rfl hn.1
 case shr => exact absurd rfl hn.2
 all_goals simp [execOp,ho,h1,h2,eqGuard,binOp,isCmp,den,aop,acmp,Op.intArith,Op.intBits,Op.intCmp] <;> rfl
theorem zq1852 {n : Int} (h : i64ok n = true) : IntKind.i64.wrap n = n := by
 rw [zq903] at h
 exact IntWalk.i64_in n (by omega)
theorem iop_ok {bo : BinOp} (hr : zq959 bo = true) {x y : Int} (h : i64ok (iop bo x y) = true) : aop bo .i64 x y = iop bo x y := by
 cases bo <;> first | (cases hr; done) | exact zq1852 h
theorem zq1501 {bo : BinOp} {ty yt : TypeId} {x y : Operand} {k k' : IntKind} {ex ey : Int} (ho : o.op = .binOp bo ty x y yt) (ht : RelT ρ m.length t a) (hx : ev t x = .i k ex) (hy : ev t y = .i k' ey)
  (hn : bo = .shl ∨ bo = .shr) : QOk P W ρ m a o (decide (0 ≤ ey)) (.i k (aop bo k ex ey)) := by
 intro he
 have h1 := (ht.ev x (by rw [hx]; rfl)).2
 have h2 := (ht.ev y (by rw [hy]; rfl)).2
 rw [hx] at h1; rw [hy] at h2
 simp only [den] at h1 h2
 have he' : 0 ≤ ey := of_decide_eq_true he
 refine ⟨_,fun _ => ⟨rfl,rfl⟩,fun w hw => ?_⟩
 have hneg : ¬ ey < 0 := by omega
 rcases hn with rfl | rfl <;> simp [execOp,ho,h1,h2,eqGuard,binOp,den,aop,Op.shift,hneg]
theorem zq1591 {ty : TypeId} (hd : P.underlying ty = some .bool) (x y : Bool) (w : World) : (Op.equal ty (.bool x) (.bool y)).run P w = .ok (x == y) w := by
 have h : ∀ d : Nat,(Op.equalIn (d + 1) ty (.bool x) (.bool y)).run P w = .ok (x == y) w := fun d => by simp [Op.equalIn,run_underlying hd]
 exact h 9999
theorem zq1475 (hT : TOk P T) {bo : BinOp} {ty yt : TypeId} {x y : Operand} {ex ey : Bool} (ho : o.op = .binOp bo ty x y yt) (ht : RelT ρ m.length t a) (hx : ev t x = .b ex) (hy : ev t y = .b ey)
  (hk : (T ty).known = true) (hkd : (T ty).kind = .bool) (hb : bo = .eql ∨ bo = .neq) : QOk P W ρ m a o true (.b (if bo = .eql then beqB ex ey else !(beqB ex ey))) := by
 intro _
 have h1 := (ht.ev x (by rw [hx]; rfl)).2
 have h2 := (ht.ev y (by rw [hy]; rfl)).2
 rw [hx] at h1; rw [hy] at h2
 simp only [den] at h1 h2
 obtain ⟨i,d,z,hi,hd,hz,g1,g2,g3,g4,g5,_⟩ := (hT.ty ty hk).ex
 have := g5 hkd; subst this
 refine ⟨_,fun _ => ⟨rfl,rfl⟩,fun w hw => ?_⟩
 rcases hb with rfl | rfl <;> simp [execOp,ho,h1,h2,eqGuard,binOp,zq1591 hd,den,beqB]
theorem zq1478 {bo : BinOp} {ty yt : TypeId} {x y : Operand} {ex ey : ByteArray} (ho : o.op = .binOp bo ty x y yt) (ht : RelT ρ m.length t a) (hx : ev t x = .s ex) (hy : ev t y = .s ey)
  (hb : isCmp bo = true) : QOk P W ρ m a o true (.b (zq1794 bo ex ey)) := by
 intro _
 have h1 := (ht.ev x (by rw [hx]; rfl)).2
 have h2 := (ht.ev y (by rw [hy]; rfl)).2
 rw [hx] at h1; rw [hy] at h2
 simp only [den] at h1 h2
 refine ⟨_,fun _ => ⟨rfl,rfl⟩,fun w hw => ?_⟩
 cases bo <;> first | (cases hb; done) | simp [execOp,ho,h1,h2,eqGuard,binOp,Op.stringOp,den,zq1794]
theorem zq1476 {ty yt : TypeId} {x y : Operand} {ex ey : ByteArray} (ho : o.op = .binOp .add ty x y yt) (ht : RelT ρ m.length t a) (hx : ev t x = .s ex) (hy : ev t y = .s ey) :
  QOk P W ρ m a o (roomS (catS ex ey)) (.s (catS ex ey)) := by
 intro he
 have h1 := (ht.ev x (by rw [hx]; rfl)).2
 have h2 := (ht.ev y (by rw [hy]; rfl)).2
 rw [hx] at h1; rw [hy] at h2
 simp only [den] at h1 h2
 have he := Nat.le_of_ble_eq_true he
 simp only [catS,ByteArray.size_append] at he
 refine ⟨_,fun _ => ⟨rfl,rfl⟩,fun w hw => ?_⟩
 have hneg : ¬ ((ex.size + ey.size : Nat) : Int) > IntKind.i64.max := by
  have : IntKind.i64.max = 9223372036854775807 := by decide
  rw [this]
  omega
 simp only [execOp,ho,h1,h2,eqGuard,binOp,Op.stringOp,hneg,if_false,den,catS]
 rfl
theorem zq1474 (hT : TOk P T) {bo : BinOp} {ty yt : TypeId} {x y : Operand} {la lb : List SV} {ee : Bool} (ho : o.op = .binOp bo ty x y yt) (ht : RelT ρ m.length t a) (hx : ev t x = .agg la) (hy : ev t y = .agg lb)
  (hk : (T ty).eq = true) (hka : zq979 (T ty).zero la = true) (hkb : zq979 (T ty).zero lb = true) (hee : zq750 la lb = some ee) (hb : bo = .eql ∨ bo = .neq) : QOk P W ρ m a o true (.b (if bo = .eql then ee else !ee)) := by
 intro _
 have h1 := (ht.ev x (by rw [hx]; rfl)).2
 have h2 := (ht.ev y (by rw [hy]; rfl)).2
 rw [hx] at h1; rw [hy] at h2
 simp only [den] at h1 h2
 refine ⟨_,fun _ => ⟨rfl,rfl⟩,fun w hw => ?_⟩
 obtain ⟨e1,e2⟩ := hT.eq ty hk (denL ρ la) (denL ρ lb) x y w (zq980 ρ _ _ hka) (zq980 ρ _ _ hkb)
 rw [← zq751 ρ la lb ee hee] at e1 e2
 rcases hb with rfl | rfl
 ·simp only [execOp,ho,h1,h2,if_true]
  rw [Sem.run_bind,e1]
  rfl
 ·simp only [execOp,ho,h1,h2]
  rw [Sem.run_bind,e2]
  simp [den]
theorem q_not {ty : TypeId} {x : Operand} {ex : Bool} (ho : o.op = .unOp .not ty x) (ht : RelT ρ m.length t a) (hx : ev t x = .b ex) : QOk P W ρ m a o true (.b (!ex)) := by
 intro _
 have h1 := (ht.ev x (by rw [hx]; rfl)).2
 rw [hx] at h1
 simp only [den] at h1
 exact ⟨_,fun _ => ⟨rfl,rfl⟩,fun w hw => by simp [execOp,ho,h1,Op.unary,den]⟩
theorem zq1481 (hT : TOk P T) {src dst : TypeId} {x : Operand} {k k' : IntKind} {ex : Int} (ho : o.op = .convert src dst x) (ht : RelT ρ m.length t a) (hx : ev t x = .i k' ex)
  (hs : (T src).known = true) (hd : (T dst).known = true) (hk : (T dst).kind = .int k) : QOk P W ρ m a o true (.i k (convI k ex)) := by
 intro _
 have h1 := (ht.ev x (by rw [hx]; rfl)).2
 rw [hx] at h1
 simp only [den] at h1
 obtain ⟨_,d1,_,_,u1,_⟩ := (hT.ty src hs).ex
 obtain ⟨_,d2,_,_,u2,_,_,_,_,g4,_⟩ := (hT.ty dst hd).ex
 have := g4 k hk; subst this
 refine ⟨_,fun _ => ⟨rfl,rfl⟩,fun w hw => ?_⟩
 simp [execOp,ho,h1,convert,run_underlying u1,run_underlying u2,Conv.intToInt,den,convI]
theorem zq1482 {x : Operand} {i : Nat} {l : List SV} (ho : o.op = .extract x i) (ht : RelT ρ m.length t a) (hx : ev t x = .tup l) (hi : l[i]? = some v) (hv : v.isAny = false) : QOk P W ρ m a o true v := by
 intro _
 have h0 := ht.ev x (by rw [hx]; rfl)
 rw [hx] at h0
 obtain ⟨h0,h1⟩ := h0
 simp only [SV.lt,zq1191,zc17] at h0
 simp only [den] at h1
 refine ⟨_,fun _ => ⟨h0 v (zc5 hi),rfl⟩,fun w hw => ?_⟩
 have : (denL ρ l).toArray[i]? = some (den ρ v) := by rw [List.getElem?_toArray,zq711,zc31,hi]; rfl
 simp [execOp,ho,h1,Instr.extract,this]
theorem zq1498 {x : Operand} {j off : Nat} {cs : List SV} {bt : TypeId} {own : Bool} (ho : o.op = .nilCheck x) (ht : RelT ρ m.length t a) (hx : ev t x = .ptr j off) (hj : m[j]? = some (.blk cs bt own)) : QOk P W ρ m a o true (.ptr j off) := by
 intro _
 have h0 := ht.ev x (by rw [hx]; rfl)
 rw [hx] at h0
 obtain ⟨h0,h1⟩ := h0
 refine ⟨_,fun _ => ⟨h0,rfl⟩,fun w hw => ?_⟩
 obtain ⟨b,arr,hb,hh,_,hc⟩ := hw.blk hj
 simp only [den,hb,zq1465] at h1 ⊢
 simp [execOp,ho,h1]
theorem zq1499 {x : Operand} {j off sz : Nat} {e' : Int} {c : C} {bt : TypeId} {own : Bool} (ho : o.op = .nilCheck x) (ht : RelT ρ m.length t a) (hx : ev t x = .ep j e' sz off) (hj : m[j]? = some (.row c bt own)) : QOk P W ρ m a o (zq908 e' c.len) (.ep j e' sz off) := by
 intro he
 obtain ⟨b1,b2⟩ := zq909.1 he
 rw [C.len_n] at b2
 have h0 := ht.ev x (by rw [hx]; rfl)
 rw [hx] at h0
 obtain ⟨h0,h1⟩ := h0
 refine ⟨_,fun _ => ⟨h0,rfl⟩,fun w hw => ?_⟩
 obtain ⟨hs0,A,cap,hρ,hlen',hnone,_⟩ := RelM.row hw hj
 obtain ⟨ad,rfl⟩ : ∃ ad,A = some ad := by
  cases A with
  | none => have := hnone rfl; omega
  | some ad => exact ⟨ad,rfl⟩
 simp only [den,hρ,zq734] at h1 ⊢
 simp [execOp,ho,h1]
theorem zq852 (off : Nat) : ∀ (vs : List Value) (j : Nat) (cells : Array Value),off + j + vs.length ≤ cells.size →
  (vs.zipIdx j).foldl (fun cs (p : Value × Nat) => cs.setIfInBounds (off + p.2) p.1) cells = ((cells.toList.take (off + j)) ++ vs ++ cells.toList.drop (off + j + vs.length)).toArray
 | [],j,cells,_ => by simp
 | v :: r,j,cells,h => by
  simp only [zc21] at h
  simp only [List.zipIdx_cons,List.foldl_cons]
  rw [zq852 off r (j + 1) _ (by simp; omega)]
  apply Array.ext'
  simp only [Array.toList_setIfInBounds]
  apply List.ext_getElem?
  intro i
  simp only [zc21]
  have hl : cells.toList.length = cells.size := by simp
  rcases Nat.lt_trichotomy i (off + j) with hi | hi | hi
  ·rw [zc6 (by simp; omega),zc6 (by simp; omega),zc6 (by simp; omega),zc6 (by simp; omega),
    zc14,zc14,if_pos (by omega),if_pos hi,zc15 (by omega)]
  ·subst hi
   rw [zc6 (by simp; omega),zc6 (by simp; omega),zc6 (by simp; omega),zc12 (by simp; omega),
    zc14,if_pos (by omega),zc23 (by omega)]
   simp
   rw [Nat.min_eq_left (by omega)]
   simp
  ·by_cases hi2 : i < off + j + 1 + r.length
   ·rw [zc6 (by simp; omega),zc12 (by simp; omega),zc6 (by simp; omega),zc12 (by simp; omega)]
    simp only [zc20,zc43,hl]
    rw [Nat.min_eq_left (by omega),Nat.min_eq_left (by omega),show i - (off + j) = (i - (off + (j + 1))) + 1 by omega]
    rfl
   ·rw [zc12 (by simp; omega),zc12 (by simp; omega)]
    simp only [List.length_append,zc20,zc43,hl,zc21]
    rw [Nat.min_eq_left (by omega),Nat.min_eq_left (by omega),zc39,zc39,zc15 (by omega)]
    congr 1
    omega
theorem zq814 (hT : TOk P T) (places : Nat → Option (Nat × Nat)) (fs : List (Nat × TypeId)) (hp : ∀ (i off : Nat) (ft : TypeId),fs[i]? = some (off,ft) → (T ft).known = true → places i = some (off,(T ft).size)) (ht : RelT ρ m.length t a) :
  ∀ (ps : List (Nat × Operand)) (cs cs' : List SV),zq525 T t fs ps cs = some cs' → ltL m.length cs = true →
   Instr.fill places (denL ρ cs).toArray (ps.map fun (i,x) => (i,a.eval x)) = some (denL ρ cs').toArray ∧ ltL m.length cs' = true
 | [],cs,cs',h,hl => by simp only [zq525,zc2] at h; subst h; exact ⟨rfl,hl⟩
 | (i,x) :: r,cs,cs',h,hl => by
  simp only [zq525] at h
  cases hf : fs[i]? with
  | none => simp [hf] at h
  | some of =>
   obtain ⟨off,ft⟩ := of
   simp only [hf] at h
   split at h
   ·cases h
   ·rename_i hc
    simp only [Bool.or_eq_true,Bool.not_eq_true',not_or,Bool.not_eq_true,bne_eq_false_iff_eq,decide_eq_false_iff_not,Bool.not_eq_false] at hc
    obtain ⟨⟨⟨⟨h1,h2⟩,h3⟩,h4⟩,h5⟩ := hc
    obtain ⟨hlt,hev⟩ := ht.ev x h1
    have hcells : (a.eval x).cells.toList = denL ρ (ev t x).cells := by rw [hev]; exact zq1281 h3 h1
    have hsz : (a.eval x).cells.size = (ev t x).cells.length := by rw [← Array.length_toList,hcells,zq710]
    have hlc : ltL m.length (ev t x).cells = true := by
     cases hsv : ev t x with
     | agg l => rw [hsv] at hlt; simpa [SV.cells,SV.lt] using hlt
     | _ => simp_all [SV.cells,ltL]
    simp only [List.map_cons,Instr.fill,hp i off ft hf h2]
    rw [if_neg (by simp [hsz,h4]; omega)]
    have hfold : (a.eval x).cells.zipIdx.foldl (fun cs (p : Value × Nat) => cs.setIfInBounds (off + p.2) p.1) (denL ρ cs).toArray = (denL ρ (zq812 cs off (ev t x).cells)).toArray := by
     rw [← Array.foldl_toList,Array.toList_zipIdx,hcells,zq852 off _ 0 _ (by simp; omega)]
     simp only [zq812,zq711,List.map_append,List.map_take,List.map_drop,List.length_map,Nat.add_zero]
    have := zq814 hT places fs hp ht r (zq812 cs off (ev t x).cells) cs' h (by
     simp only [zq1191,zc17,zq812,List.mem_append] at hl hlc ⊢
     rintro c ((hc | hc) | hc)
     ·exact hl c (List.mem_of_mem_take hc)
     ·exact hlc c hc
     ·exact hl c (List.mem_of_mem_drop hc))
    rw [← hfold] at this
    exact this
theorem zq1386 (hT : TOk P T) : ∀ (fs : List Field),(∀ f ∈ fs,(T f.type).known = true) → fs.mapM (fun f => (P.info? f.type).map fun i => (f.offset,i.size)) = some (fs.map fun f => (f.offset,(T f.type).size))
 | [],_ => rfl
 | f :: r,h => by
  obtain ⟨i,d,z,hi,hd,hz,g1,_⟩ := (hT.ty f.type (h f (List.mem_cons_self ..))).ex
  simp [List.mapM_cons,hi,zq1386 hT r (fun f hf => h f (List.mem_cons_of_mem _ hf)),g1]
theorem zq1479 (hT : TOk P T) {ty : TypeId} {ps : Array (Nat × Operand)} {cs : List SV} (ho : o.op = .build ty ps) (ht : RelT ρ m.length t a) (hkd : (T ty).kind = .struct) (hk : (T ty).known = true)
  (hfk : (T ty).fields.all (fun f => (T f.2).known) = true) (hb : zq525 T t (T ty).fields ps.toList ((T ty).zero.map ofC) = some cs) : QOk P W ρ m a o true (.agg cs) := by
 intro _
 obtain ⟨i,d,z,hi,hd,hz,g1,g2,g3,g4,g5,g6,g7,g8,_⟩ := (hT.ty ty hk).ex
 obtain ⟨fs,rfl,hfs⟩ := g8 hkd
 have hzl : ltL m.length ((T ty).zero.map ofC) = true := by simp [zq1191,zq1267]
 have hzd : denL ρ ((T ty).zero.map ofC) = (T ty).zero := by
  rw [zq711,List.map_map,show (den ρ ∘ ofC) = id from funext (zq712 ρ),List.map_id]
 rw [hfs] at hfk
 simp only [List.all_map,zc17,Function.comp] at hfk
 have hpl := zq1386 hT fs.toList (fun f hf => hfk f hf)
 obtain ⟨hfill,hlt⟩ := zq814 hT (fun x => (fs.toList.map fun f => (f.offset,(T f.type).size)).toArray[x]?) (T ty).fields (fun i off ft h _ => by
  rw [hfs,zc31] at h
  obtain ⟨f,hf,he⟩ := zc7.1 h
  simp only [zc11] at he
  obtain ⟨rfl,rfl⟩ := he
  simp only [List.getElem?_toArray,zc31,hf]
  rfl) ht ps.toList _ cs hb hzl
 refine ⟨_,fun _ => ⟨by simpa [SV.lt] using hlt,rfl⟩,fun w hw => ?_⟩
 have hbuilt : P.built ty (ps.map fun (i,x) => (i,a.eval x)).toList = some (denL ρ cs).toArray := by
  rw [hzd,g2] at hfill
  simp only [Program.built,hi,hd,hz,hpl]
  simpa using hfill
 have := run_build w ty _ _ hbuilt
 simp only [execOp,ho,Sem.run_bind,this,Result.andThen_ok,den]
 rfl
theorem zq1496 {f : FuncId} {first caps : Array Operand} (ho : o.op = .makeFunc (.func f) first caps) (ht : RelT ρ m.length t a) (hf : first.isEmpty = true) (hc : caps.toList.all (fun x => !(ev t x).isAny) = true) :
  QOk P W ρ m a o true (.fn f (caps.toList.map (ev t))) := by
 intro _
 simp only [zc17,Bool.not_eq_true'] at hc
 have hcaps : caps.map a.eval = (denL ρ (caps.toList.map (ev t))).toArray := by
  apply Array.ext'
  simp only [Array.toList_map,zq711,List.map_map]
  exact List.map_congr_left fun x hx => (ht.ev x (hc x hx)).2
 refine ⟨_,fun _ => ⟨?_,rfl⟩,fun w hw => ?_⟩
 ·simp only [SV.lt,zq1191,zc17,List.mem_map]
  rintro _ ⟨x,hx,rfl⟩
  exact (ht.ev x (hc x hx)).1
 ·have : first = #[] := by simpa using hf
  subst this
  simp [execOp,ho,Instr.makeFunc,hcaps,den]
theorem zq1489 (hT : TOk P T) {ty : TypeId} {x i : Operand} {es : ByteArray} {ei : Int} {k : IntKind} (ho : o.op = .index ty x i) (ht : RelT ρ m.length t a) (hx : ev t x = .s es) (hi : ev t i = .i k ei) (hk : (T ty).known = true) (hkd : (T ty).kind = .str) :
  QOk P W ρ m a o (zq908 ei (lenS es)) (.i .u8 (zq527 es ei)) := by
 intro he
 have h1 := (ht.ev x (by rw [hx]; rfl)).2
 have h2 := (ht.ev i (by rw [hi]; rfl)).2
 rw [hx] at h1; rw [hi] at h2
 simp only [den] at h1 h2
 obtain ⟨ti,d,z,hti,hd,hz,g1,g2,g3,g4,g5,g6,g7,g8,_⟩ := (hT.ty ty hk).ex
 have := g6 hkd; subst this
 obtain ⟨b1,b2⟩ := zq909.1 he
 simp only [lenS] at b2
 refine ⟨_,fun _ => ⟨rfl,rfl⟩,fun w hw => ?_⟩
 have hlt : ei.toNat < es.size := by omega
 have hget : es[ei.toNat]? = some (es[ei.toNat]) := getElem?_pos es ei.toNat hlt
 simp [execOp,ho,h1,h2,Instr.index,asIntOf,run_underlying hd,b1,hget,den,zq527]
theorem zq1487 (hT : TOk P T) {ty : TypeId} {x i : Operand} {ei : Int} {k : IntKind} {j : Nat} {c : C} {bt : TypeId} {own : Bool} (ho : o.op = .indexAddr ty x i) (ht : RelT ρ m.length t a) (hx : ev t x = .row j) (hi : ev t i = .i k ei)
  (hk : (T ty).known = true) (hkd : (T ty).kind = .slice) (hj : m[j]? = some (.row c bt own)) (hke : (T (T ty).elem).known = true) (hsz : (T (T ty).elem).size = c.sz) :
  QOk P W ρ m a o (zq908 ei c.len) (.ep j ei c.sz 0) := by
 intro he
 have h0 := ht.ev x (by rw [hx]; rfl)
 rw [hx] at h0
 obtain ⟨h0,h1⟩ := h0
 have h2 := (ht.ev i (by rw [hi]; rfl)).2
 rw [hi] at h2
 simp only [den] at h1 h2
 obtain ⟨ti,d,z,hti,hd,hz,g1,g2,g3,g4,g5,g6,g7,g8,_⟩ := (hT.ty ty hk).ex
 have := g7 hkd; subst this
 obtain ⟨b1,b2⟩ := zq909.1 he
 rw [C.len_n] at b2
 refine ⟨_,fun _ => ⟨by simpa [SV.lt] using h0,rfl⟩,fun w hw => ?_⟩
 obtain ⟨hs0,A,cap,hρ,hlen',hnone,_,_,_,hcell⟩ := RelM.row hw hj
 cases A with
 | none => have := hnone rfl; omega
 | some ad =>
  simp only [hρ,zq1637] at h1
  have hb2 : (0 ≤ ei ∧ ei < (c.n : Int)) := by omega
  have hadd0 : ∀ ad : Addr,ad.add 0 = ad := fun ad => by simp [Addr.add]
  simp only [execOp,ho,h1,h2,Instr.indexAt,asIntOf,Sem.run_bind,Sem.run_pure,Result.andThen_ok,run_underlying hd,den,hρ,zq734,hadd0]
  rw [if_pos hb2]
  simp only [Sem.run_bind,(hT.ty _ hke).sizeOf,hsz,Sem.run_pure,Result.andThen_ok]
theorem zq1488 (hT : TOk P T) {ty : TypeId} {x i : Operand} {ei i' : Int} {k : IntKind} {j : Nat} {kk : K} {ls : List (List kk.T)} {bt : TypeId} {own fr : Bool} (ho : o.op = .indexAddr ty x i) (ht : RelT ρ m.length t a) (hx : ev t x = .inn j i') (hi : ev t i = .i k ei)
  (hk : (T ty).known = true) (hkd : (T ty).kind = .slice) (hj : m[j]? = some (.bag kk ls bt own fr)) (hke : (T (T ty).elem).known = true) (hsz : (T (T ty).elem).size = kk.sz) :
  QOk P W ρ m a o (zq908 ei (lenL (getL ls i'))) (.iep j i' ei kk.sz 0) := by
 intro he
 have h0 := ht.ev x (by rw [hx]; rfl)
 rw [hx] at h0
 obtain ⟨h0,h1⟩ := h0
 have h2 := (ht.ev i (by rw [hi]; rfl)).2
 rw [hi] at h2
 simp only [den] at h1 h2
 obtain ⟨ti,d,z,hti,hd,hz,g1,g2,g3,g4,g5,g6,g7,g8,_⟩ := (hT.ty ty hk).ex
 have := g7 hkd; subst this
 obtain ⟨b1,b2⟩ := zq909.1 he
 unfold lenL at b2
 refine ⟨_,fun _ => ⟨by simpa [SV.lt] using h0,rfl⟩,fun w hw => ?_⟩
 obtain ⟨_,A,cap,hρ,_,_,hnone,_⟩ := hw.inn hj i'
 simp only [den] at hρ
 cases A with
 | none => have := hnone rfl; omega
 | some ad =>
  rw [hρ] at h1
  have hb2 : (0 ≤ ei ∧ ei < ((getL ls i').length : Int)) := by omega
  have hadd0 : ∀ ad : Addr,ad.add 0 = ad := fun ad => by simp [Addr.add]
  simp only [execOp,ho,h1,h2,Instr.indexAt,asIntOf,Sem.run_bind,Sem.run_pure,Result.andThen_ok,run_underlying hd,den,hρ,zq734,hadd0]
  rw [if_pos hb2]
  simp only [Sem.run_bind,(hT.ty _ hke).sizeOf,hsz,Sem.run_pure,Result.andThen_ok]
theorem zq1490 (hT : TOk P T) {c : Call} {x : Operand} {at_ : TypeId} {j : Nat} {i' : Int} {kk : K} {ls : List (List kk.T)} {bt : TypeId} {own fr : Bool} (ho : o.op = .call c) (hc : c.callee = .builtin .len) (hargs : c.args.toList = [x]) (hat : c.argTypes.toList = [at_]) (hk : (T at_).known = true) (hkd : (T at_).kind = .slice)
  (ht : RelT ρ m.length t a) (hx : ev t x = .inn j i') (hj : m[j]? = some (.bag kk ls bt own fr)) : QOk P W ρ m a o true (.i .i64 (lenL (getL ls i'))) := by
 intro _
 have h1 := (ht.ev x (by rw [hx]; rfl)).2
 rw [hx] at h1
 have ha : c.args = #[x] := by rw [← Array.toArray_toList (xs := c.args),hargs]
 have hb : c.argTypes = #[at_] := by rw [← Array.toArray_toList (xs := c.argTypes),hat]
 obtain ⟨ti,d,z,hti,hd,hz,g1,g2,g3,g4,g5,g6,g7,g8,_⟩ := (hT.ty at_ hk).ex
 have := g7 hkd; subst this
 refine ⟨_,fun _ => ⟨rfl,rfl⟩,fun w hw => ?_⟩
 obtain ⟨_,A,cap,hρ,_⟩ := hw.inn hj i'
 rw [hρ] at h1
 simp only [execOp,ho,resolve,hc,ha,hb,invoke,builtin,Builtin.len_,den,goInt,Sem.run_bind,Sem.run_pure,Result.andThen_ok,List.map_toArray,List.map_cons,List.map_nil,h1,lenL]
 simp [run_underlying hd]
theorem zq1493 (hT : TOk P T) {c : Call} {x : Operand} {at_ : TypeId} {es : ByteArray} (ho : o.op = .call c) (hc : c.callee = .builtin .len) (hargs : c.args.toList = [x]) (hat : c.argTypes.toList = [at_]) (hk : (T at_).known = true) (hkd : (T at_).kind = .str)
  (ht : RelT ρ m.length t a) (hx : ev t x = .s es) : QOk P W ρ m a o true (.i .i64 (lenS es)) := by
 intro _
 have h1 := (ht.ev x (by rw [hx]; rfl)).2
 rw [hx] at h1
 simp only [den] at h1
 have ha : c.args = #[x] := by rw [← Array.toArray_toList (xs := c.args),hargs]
 have hb : c.argTypes = #[at_] := by rw [← Array.toArray_toList (xs := c.argTypes),hat]
 obtain ⟨ti,d,z,hti,hd,hz,g1,g2,g3,g4,g5,g6,g7,g8,_⟩ := (hT.ty at_ hk).ex
 have := g6 hkd; subst this
 refine ⟨_,fun _ => ⟨rfl,rfl⟩,fun w hw => ?_⟩
 simp [execOp,ho,resolve,hc,ha,hb,invoke,builtin,Builtin.len_,run_underlying hd,h1,den,lenS,goInt]
theorem zq1492 (hT : TOk P T) {c : Call} {x : Operand} {at_ : TypeId} {j : Nat} {cc : C} {bt : TypeId} {own : Bool} (ho : o.op = .call c) (hc : c.callee = .builtin .len) (hargs : c.args.toList = [x]) (hat : c.argTypes.toList = [at_]) (hk : (T at_).known = true) (hkd : (T at_).kind = .slice)
  (ht : RelT ρ m.length t a) (hx : ev t x = .row j) (hj : m[j]? = some (.row cc bt own)) : QOk P W ρ m a o true (.i .i64 cc.len) := by
 intro _
 have h1 := (ht.ev x (by rw [hx]; rfl)).2
 rw [hx] at h1
 simp only [den] at h1
 have ha : c.args = #[x] := by rw [← Array.toArray_toList (xs := c.args),hargs]
 have hb : c.argTypes = #[at_] := by rw [← Array.toArray_toList (xs := c.argTypes),hat]
 obtain ⟨ti,d,z,hti,hd,hz,g1,g2,g3,g4,g5,g6,g7,g8,_⟩ := (hT.ty at_ hk).ex
 have := g7 hkd; subst this
 refine ⟨_,fun _ => ⟨rfl,rfl⟩,fun w hw => ?_⟩
 obtain ⟨hs0,A,cap,hρ,_⟩ := RelM.row hw hj
 simp only [hρ,zq1637] at h1
 simp only [execOp,ho,resolve,hc,ha,hb,invoke,builtin,Builtin.len_,den,goInt,Sem.run_bind,Sem.run_pure,Result.andThen_ok,List.map_toArray,List.map_cons,List.map_nil,h1,C.len_n]
 simp [run_underlying hd]
theorem zq1491 (hT : TOk P T) {c : Call} {x : Operand} {at_ : TypeId} (ho : o.op = .call c) (hc : c.callee = .builtin .len) (hargs : c.args.toList = [x]) (hat : c.argTypes.toList = [at_]) (hk : (T at_).known = true) (hkd : (T at_).kind = .slice)
  (ht : RelT ρ m.length t a) (hx : ev t x = .v (.slice none 0 0)) : QOk P W ρ m a o true (.i .i64 0) := by
 intro _
 have h1 := (ht.ev x (by rw [hx]; rfl)).2
 rw [hx] at h1
 simp only [den] at h1
 have ha : c.args = #[x] := by rw [← Array.toArray_toList (xs := c.args),hargs]
 have hb : c.argTypes = #[at_] := by rw [← Array.toArray_toList (xs := c.argTypes),hat]
 obtain ⟨ti,d,z,hti,hd,hz,g1,g2,g3,g4,g5,g6,g7,g8,_⟩ := (hT.ty at_ hk).ex
 have := g7 hkd; subst this
 refine ⟨_,fun _ => ⟨rfl,rfl⟩,fun w hw => ?_⟩
 simp only [execOp,ho,resolve,hc,ha,hb,invoke,builtin,Builtin.len_,den,goInt,Sem.run_bind,Sem.run_pure,Result.andThen_ok,List.map_toArray,List.map_cons,List.map_nil,h1]
 simp [run_underlying hd]
theorem q_min {c : Call} {x y : Operand} {ex ey : Int} (ho : o.op = .call c) (hc : c.callee = .builtin .min) (hargs : c.args.toList = [x,y])
  (ht : RelT ρ m.length t a) (hx : ev t x = .i .i64 ex) (hy : ev t y = .i .i64 ey) : QOk P W ρ m a o true (.i .i64 (minI ex ey)) := by
 intro _
 have h1 := (ht.ev x (by rw [hx]; rfl)).2
 have h2 := (ht.ev y (by rw [hy]; rfl)).2
 rw [hx] at h1; rw [hy] at h2
 simp only [den] at h1 h2
 have ha : c.args = #[x,y] := by rw [← Array.toArray_toList (xs := c.args),hargs]
 refine ⟨_,fun _ => ⟨rfl,rfl⟩,fun w hw => ?_⟩
 simp [execOp,ho,resolve,hc,ha,invoke,builtin,Builtin.min_,Builtin.min2,h1,h2,den,minI]
theorem zq510 {lo : Option Operand} {d el : Int} (h : bndE t lo d = some el) (ht : RelT ρ m.length t a) :
  (lo = none ∧ el = d) ∨ ∃ l k,lo = some l ∧ a.eval l = .int k el := by
 unfold bndE at h
 cases lo with
 | none => simp only [zc2] at h; exact .inl ⟨rfl,h.symm⟩
 | some l =>
  simp only at h
  split at h
  ·rename_i k e' hl
   injection h with h
   subst h
   have := (ht.ev l (by rw [hl]; rfl)).2
   rw [hl] at this
   exact .inr ⟨l,k,rfl,this⟩
  ·cases h
theorem zq1502 (hT : TOk P T) {ty : TypeId} {x : Operand} {lo hi : Option Operand} {es : ByteArray} {el eh : Int} (ho : o.op = .slice ty x lo hi none) (ht : RelT ρ m.length t a) (hk : (T ty).known = true) (hkd : (T ty).kind = .str) (hx : ev t x = .s es)
  (hlo : bndE t lo 0 = some el) (hhi : bndE t hi (lenS es) = some eh) : QOk P W ρ m a o (decide (0 ≤ el) && decide (el ≤ eh) && decide (eh ≤ lenS es)) (.s (subS es el eh)) := by
 intro he
 have h1 := (ht.ev x (by rw [hx]; rfl)).2
 rw [hx] at h1
 simp only [den] at h1
 obtain ⟨ti,d,z,hti,hd,hz,g1,g2,g3,g4,g5,g6,g7,g8,_⟩ := (hT.ty ty hk).ex
 have := g6 hkd; subst this
 simp only [zc4,decide_eq_true_eq] at he
 obtain ⟨⟨b1,b2⟩,b3⟩ := he
 simp only [lenS] at b3
 refine ⟨_,fun _ => ⟨rfl,rfl⟩,fun w hw => ?_⟩
 have hel : ((eh.toNat : Nat) : Int) = eh := Int.toNat_of_nonneg (by omega)
 rcases zq510 hlo ht with ⟨rfl,rfl⟩ | ⟨l,kl,rfl,hl⟩ <;> rcases zq510 hhi ht with ⟨rfl,rfl⟩ | ⟨h,kh,rfl,hh⟩
 ·simp [execOp,ho,h1,Instr.sliceAt,Instr.slice,run_underlying hd,Instr.sliceBounds,den,subS,lenS]
 ·simp [execOp,ho,h1,hh,Instr.sliceAt,Instr.slice,run_underlying hd,Instr.sliceBounds,den,subS,lenS,run_sliceBound w kh eh es.size _ (by omega) b3]
 ·have b2' : el ≤ es.size := by simpa [lenS] using b2
  simp [execOp,ho,h1,hl,Instr.sliceAt,Instr.slice,run_underlying hd,Instr.sliceBounds,den,subS,lenS,run_sliceBound w kl el es.size _ b1 b2']
 ·simp [execOp,ho,h1,hl,hh,Instr.sliceAt,Instr.slice,run_underlying hd,Instr.sliceBounds,den,subS,lenS,run_sliceBound w kh eh es.size _ (by omega) b3,run_sliceBound w kl el eh.toNat _ b1 (by omega)]
theorem zq851 : ∀ (l : List Int) (r : ByteArray),l.foldl (fun r n => r.push (UInt8.ofNat n.toNat)) r = ⟨r.data ++ (l.map fun n => UInt8.ofNat n.toNat).toArray⟩
 | [],r => by simp
 | b :: l,r => by
  simp only [List.foldl_cons]
  rw [zq851 l]
  congr 1
  apply Array.ext'
  simp [ByteArray.push]
theorem zq532 (l : List Int) : l.foldl (fun r n => r.push (UInt8.ofNat n.toNat)) ByteArray.empty = zq530 l := by
 rw [zq851]
 simp [zq530]
theorem zq714 (ρ : Nat → Value) : ∀ l : List Int,(C.ty .u8 l).den ρ = (List.map (fun b : Int => Value.int .u8 b) l)
 | [] => rfl
 | x :: r => by
  have := zq714 ρ r
  simp only [C.den] at this ⊢
  rw [List.map_cons,← this]
  rfl
theorem zq1480 (hT : TOk P T) {src dst : TypeId} {x : Operand} {j : Nat} {l : List K.u8.T} {bt : TypeId} {own : Bool} (ho : o.op = .convert src dst x) (ht : RelT ρ m.length t a) (hx : ev t x = .row j) (hj : m[j]? = some (.row (.ty .u8 l) bt own))
  (k1 : (T src).known = true) (k2 : (T dst).known = true) (k3 : (T src).kind = .slice) (k4 : (T dst).kind = .str) (k5 : (T (T src).elem).known = true) (k6 : (T (T src).elem).kind = .int .u8) :
  QOk P W ρ m a o true (.s (zq530 l)) := by
 intro _
 have h1 := (ht.ev x (by rw [hx]; rfl)).2
 rw [hx] at h1
 obtain ⟨_,d1,_,_,u1,_,_,_,_,_,_,_,g7,_⟩ := (hT.ty src k1).ex
 have := g7 k3; subst this
 obtain ⟨_,d2,_,_,u2,_,_,_,_,_,_,g6,_⟩ := (hT.ty dst k2).ex
 have := g6 k4; subst this
 obtain ⟨_,d3,_,_,u3,_,_,_,_,g4,_⟩ := (hT.ty _ k5).ex
 have := g4 _ k6; subst this
 refine ⟨_,fun _ => ⟨rfl,rfl⟩,fun w hw => ?_⟩
 obtain ⟨hs0,A,cap,hρ,hlen',hnone,_,_,_,hcell⟩ := RelM.row hw hj
 simp only [den,hρ,zq1637] at h1
 have hden : (C.ty .u8 l).den ρ = (List.map (fun b : Int => Value.int .u8 b) l) := by
  exact zq714 ρ l
 rw [hden] at hcell
 have hrun : (Conv.bytesToString (.slice A (C.ty K.u8 l).n cap)).run P w = .ok (.string (zq530 l)) w := by
  cases A with
  | none =>
   have h0 := hnone rfl
   have : l = [] := List.eq_nil_of_length_eq_zero h0
   subst this
   simp [Conv.bytesToString,C.n,zq530]
   rfl
  | some ad =>
   have hload := run_loadCells_list (P := P) w ad (List.map (fun b : Int => Value.int .u8 b) l) (fun q u hu => hcell ad rfl q u hu)
   have := run_bytesToString (P := P) w ad (C.ty K.u8 l).n cap l (by
    have e : (List.map (fun b : Int => Value.int .u8 b) l).length = (C.ty K.u8 l).n := List.length_map _
    rw [e] at hload
    simpa using hload)
   rw [this]
   exact congrArg (fun s => Result.ok (Value.string s) w) (zq532 l)
 simp [execOp,ho,h1,convert,run_underlying u1,run_underlying u2,run_underlying u3,hrun,den]
theorem zq1304 (hT : TOk P T) (hlt : ∀ (j : Nat) (ob : Obj),m[j]? = some ob → ob.lt m.length = true) (ht : RelT ρ m.length t a) (h : opq T t m o.op = some (e,v)) : QOk P W ρ m a o e v := by
 cases hop : o.op with
 | move x => simp only [hop,opq,zc2,zc11] at h; obtain ⟨rfl,rfl⟩ := h; exact zq1497 (.inl hop) ht
 | assign x => simp only [hop,opq,zc2,zc11] at h; obtain ⟨rfl,rfl⟩ := h; exact zq1497 (.inr hop) ht
 | pick c x y =>
  simp only [hop,opq] at h
  split at h
  ·rename_i hc; simp only [zc2,zc11] at h; obtain ⟨rfl,rfl⟩ := h; exact zq1500 (b := true) hop ht hc
  ·rename_i hc; simp only [zc2,zc11] at h; obtain ⟨rfl,rfl⟩ := h; exact zq1500 (b := false) hop ht hc
  ·cases h
 | load ty x =>
  simp only [hop,opq] at h
  split at h
  ·rename_i j off hx
   split at h
   ·rename_i cs bt own hj
    split at h
    ·rename_i hk
     obtain ⟨l,hl,h⟩ := zc8.1 h
     obtain ⟨v',hv,h⟩ := zc7.1 h
     simp only [zc11] at h; obtain ⟨rfl,rfl⟩ := h
     exact zq1495 hT hop ht hx hj hk hl hv (hlt j _ hj)
    ·cases h
   ·cases h
  ·rename_i j n sz off hx
   split at h
   ·rename_i cs rsz rn bt own hj
    split at h
    ·rename_i hk
     simp only [zc4,decide_eq_true_eq,beq_iff_eq] at hk
     obtain ⟨l,hl,h⟩ := zc8.1 h
     obtain ⟨v',hv,h⟩ := zc7.1 h
     simp only [zc11] at h; obtain ⟨rfl,rfl⟩ := h
     have := hlt j _ hj
     simp only [Obj.lt,C.lt] at this
     obtain ⟨⟨hk1,rfl⟩,hk2⟩ := hk
     exact zq1494 hT hop ht hx hj hk1 hl hv hk2 this
    ·cases h
   ·cases h
  ·cases h
 | fieldAddr ty x f =>
  simp only [hop,opq] at h
  split at h
  ·rename_i fo ft hf hkd
   split at h
   ·rename_i hk
    simp only [zc4,decide_eq_true_eq] at hk
    obtain ⟨⟨hk,hkf⟩,hs⟩ := hk
    split at h
    ·rename_i j off hx
     split at h
     ·rename_i hj; simp only [zc2,zc11] at h; obtain ⟨rfl,rfl⟩ := h; exact zq1486 hT hop ht hf hkd hx hj hk hkf hs
     ·cases h
    ·rename_i j e' sz off hx
     split at h
     ·rename_i hj; simp only [zc2,zc11] at h; obtain ⟨rfl,rfl⟩ := h; exact zq1484 hT hop ht hf hkd hx hj hk hkf hs
     ·cases h
    ·rename_i j i' e' sz off hx
     split at h
     ·rename_i hj; simp only [zc2,zc11] at h; obtain ⟨rfl,rfl⟩ := h; exact zq1485 hT hop ht hf hkd hx hj hk hkf hs
     ·cases h
    ·cases h
   ·cases h
  ·cases h
 | field ty x f =>
  simp only [hop,opq] at h
  split at h
  ·rename_i fo ft l hf hkd hx
   split at h
   ·rename_i hk
    simp only [zc4] at hk
    obtain ⟨c,hc,h⟩ := zc8.1 h
    obtain ⟨v',hv,h⟩ := zc7.1 h
    simp only [zc11] at h; obtain ⟨rfl,rfl⟩ := h
    exact zq1483 hT hop ht hf hkd hx hk.1 hk.2 hc hv
   ·cases h
  ·cases h
 | build ty ps =>
  simp only [hop,opq] at h
  split at h
  ·rename_i hkd
   split at h
   ·rename_i hk
    simp only [zc4] at hk
    obtain ⟨cs,hcs,h⟩ := zc7.1 h
    simp only [zc11] at h; obtain ⟨rfl,rfl⟩ := h
    exact zq1479 hT hop ht hkd hk.1 hk.2 hcs
   ·cases h
  ·cases h
 | binOp bo ty x y yt =>
  simp only [hop,opq] at h
  split at h
  ·rename_i k ex k' ey hx hy
   split at h
   ·rename_i hb
    simp only [zc2,zc11] at h
    obtain ⟨rfl,rfl⟩ := h
    exact zq1501 hop ht hx hy (by cases bo <;> simp_all [zq960])
   ·rename_i hb
    have hn : bo ≠ .shl ∧ bo ≠ .shr := by cases bo <;> simp_all [zq960]
    split at h
    ·rename_i hkk
     subst hkk
     split at h
     ·rename_i hc
      simp only [zc2,zc11] at h
      obtain ⟨rfl,rfl⟩ := h
      have := zq1477 (P := P) (W := W) (m := m) (e := true) hop ht hx hy hn (fun hq => by rcases hq with rfl | rfl <;> cases hc)
      rwa [if_pos hc] at this
     ·rename_i hc
      split at h
      ·rename_i hq
       simp only [zc2,zc11] at h
       obtain ⟨rfl,rfl⟩ := h
       have := zq1477 (P := P) (W := W) (m := m) (e := !decide (ey = 0)) hop ht hx hy hn (fun _ he => by simpa using he)
       rwa [if_neg hc] at this
      ·rename_i hq
       split at h
       ·rename_i hring
        simp only [zc4,decide_eq_true_eq] at hring
        obtain ⟨hr,rfl⟩ := hring
        simp only [zc2,zc11] at h
        obtain ⟨rfl,rfl⟩ := h
        intro he
        have := zq1477 (P := P) (W := W) (m := m) (e := true) hop ht hx hy hn (fun hq' => by rcases hq' with rfl | rfl <;> simp [isDiv] at hq) rfl
        rw [if_neg hc,iop_ok hr he] at this
        exact this
       simp only [zc2,zc11] at h
       obtain ⟨rfl,rfl⟩ := h
       have := zq1477 (P := P) (W := W) (m := m) (e := true) hop ht hx hy hn (fun hq' => by rcases hq' with rfl | rfl <;> simp [isDiv] at hq)
       rwa [if_neg hc] at this
    ·cases h
  ·rename_i ex ey hx hy
   split at h
   ·rename_i hkd
    split at h
    ·rename_i hk
     split at h
     ·rename_i hb
      have : bo = .eql := by cases bo <;> simp_all [isEql]
      subst this
      simp only [zc2,zc11] at h
      obtain ⟨rfl,rfl⟩ := h
      exact zq1475 hT hop ht hx hy hk hkd (.inl rfl)
     ·split at h
      ·rename_i hb
       have : bo = .neq := by cases bo <;> simp_all [isNeq]
       subst this
       simp only [zc2,zc11] at h
       obtain ⟨rfl,rfl⟩ := h
       exact zq1475 hT hop ht hx hy hk hkd (.inr rfl)
      ·cases h
    ·cases h
   ·cases h
  ·rename_i la lb hx hy
   split at h
   ·rename_i hk
    simp only [zc4] at hk
    split at h
    ·rename_i hb
     have : bo = .eql := by cases bo <;> simp_all [isEql]
     subst this
     obtain ⟨ee,hee,h⟩ := zc7.1 h
     simp only [zc11] at h
     obtain ⟨rfl,rfl⟩ := h
     exact zq1474 hT hop ht hx hy hk.1.1 hk.1.2 hk.2 hee (.inl rfl)
    ·split at h
     ·rename_i hb
      have : bo = .neq := by cases bo <;> simp_all [isNeq]
      subst this
      obtain ⟨ee,hee,h⟩ := zc7.1 h
      simp only [zc11] at h
      obtain ⟨rfl,rfl⟩ := h
      exact zq1474 hT hop ht hx hy hk.1.1 hk.1.2 hk.2 hee (.inr rfl)
     ·cases h
   ·cases h
  ·rename_i ex ey hx hy
   split at h
   ·rename_i hc
    simp only [zc2,zc11] at h
    obtain ⟨rfl,rfl⟩ := h
    exact zq1478 hop ht hx hy hc
   ·split at h
    ·rename_i hb
     have : bo = .add := by cases bo <;> simp_all [isAdd]
     subst this
     simp only [zc2,zc11] at h
     obtain ⟨rfl,rfl⟩ := h
     exact zq1476 hop ht hx hy
    ·cases h
  ·cases h
 | unOp uo ty x =>
  cases uo <;> simp only [hop,opq] at h <;> try (cases h; done)
  split at h
  ·rename_i ex hx; simp only [zc2,zc11] at h; obtain ⟨rfl,rfl⟩ := h; exact q_not hop ht hx
  ·cases h
 | convert src dst x =>
  simp only [hop,opq] at h
  split at h
  ·rename_i k k' ex h1 h2 h3 h4; simp only [zc2,zc11] at h; obtain ⟨rfl,rfl⟩ := h; exact zq1481 hT hop ht h4 h1 h2 h3
  ·rename_i j h1 h2 h3 h4
   split at h
   ·rename_i l bt own h5 h6 h7 h8; simp only [zc2,zc11] at h; obtain ⟨rfl,rfl⟩ := h; exact zq1480 hT hop ht h4 h8 h1 h2 h5 h3 h6 h7
   ·cases h
  ·cases h
 | extract x i =>
  simp only [hop,opq] at h
  split at h
  ·rename_i l hx
   split at h
   ·rename_i v' hi
    split at h
    ·cases h
    ·rename_i hv; simp only [zc2,zc11] at h; obtain ⟨rfl,rfl⟩ := h; exact zq1482 hop ht hx hi (by simpa using hv)
   ·cases h
  ·cases h
 | nilCheck x =>
  simp only [hop,opq] at h
  split at h
  ·rename_i j off hx
   split at h
   ·rename_i hj; simp only [zc2,zc11] at h; obtain ⟨rfl,rfl⟩ := h; exact zq1498 hop ht hx hj
   ·cases h
  ·rename_i j n sz off hx
   split at h
   ·rename_i hj; simp only [zc2,zc11] at h; obtain ⟨rfl,rfl⟩ := h; exact zq1499 hop ht hx hj
   ·cases h
  ·cases h
 | makeFunc fn first caps =>
  cases fn <;> simp only [hop,opq] at h <;> try (cases h; done)
  split at h
  ·rename_i hc
   simp only [zc4] at hc
   simp only [zc2,zc11] at h; obtain ⟨rfl,rfl⟩ := h; exact zq1496 hop ht hc.1 hc.2
  ·cases h
 | index ty x i =>
  simp only [hop,opq] at h
  split at h
  ·rename_i es k ei h1 h2 h3 h4; simp only [zc2,zc11] at h; obtain ⟨rfl,rfl⟩ := h; exact zq1489 hT hop ht h3 h4 h1 h2
  ·cases h
 | indexAddr ty x i =>
  simp only [hop,opq] at h
  split at h
  ·rename_i j k ei h1 h2 h3 h4
   split at h
   ·rename_i hj
    split at h
    ·rename_i hk
     simp only [zc4,beq_iff_eq] at hk
     simp only [zc2,zc11] at h; obtain ⟨rfl,rfl⟩ := h; exact zq1487 hT hop ht h3 h4 h1 h2 hj hk.1 hk.2
    ·cases h
   ·cases h
  ·rename_i j i' k ei h1 h2 h3 h4
   split at h
   ·rename_i hj
    split at h
    ·rename_i hk
     simp only [zc4,beq_iff_eq] at hk
     simp only [zc2,zc11] at h; obtain ⟨rfl,rfl⟩ := h; exact zq1488 hT hop ht h3 h4 h1 h2 hj hk.1 hk.2
    ·cases h
   ·cases h
  ·cases h
 | slice ty x lo hi mx =>
  cases mx with
  | some _ => simp only [hop,opq] at h; cases h
  | none =>
   simp only [hop,opq] at h
   split at h
   ·rename_i es h1 h2 h3
    split at h
    ·rename_i el eh hl hh
     simp only [zc2,zc11] at h
     obtain ⟨rfl,rfl⟩ := h
     exact zq1502 hT hop ht h1 h2 h3 hl hh
    ·cases h
   ·cases h
 | call c =>
  simp only [hop,opq] at h
  split at h
  ·rename_i x at_ hc hargs hat
   split at h
   ·rename_i es h1 h2 h3; simp only [zc2,zc11] at h; obtain ⟨rfl,rfl⟩ := h; exact zq1493 hT hop hc hargs hat h1 h2 ht h3
   ·rename_i j h1 h2 h3
    split at h
    ·rename_i hj; simp only [zc2,zc11] at h; obtain ⟨rfl,rfl⟩ := h; exact zq1492 hT hop hc hargs hat h1 h2 ht h3 hj
    ·cases h
   ·rename_i j i' h1 h2 h3
    split at h
    ·rename_i hj; simp only [zc2,zc11] at h; obtain ⟨rfl,rfl⟩ := h; exact zq1490 hT hop hc hargs hat h1 h2 ht h3 hj
    ·cases h
   ·rename_i h1 h2 h3; simp only [zc2,zc11] at h; obtain ⟨rfl,rfl⟩ := h; exact zq1491 hT hop hc hargs hat h1 h2 ht h3
   ·cases h
  ·rename_i x y hc hargs
   split at h
   ·rename_i h1 h2; simp only [zc2,zc11] at h; obtain ⟨rfl,rfl⟩ := h; exact q_min hop hc hargs ht h1 h2
   ·cases h
  ·cases h
 | _ => simp only [hop,opq] at h; cases h
end
theorem zq1837 {xs : List Value} (h : zq1839 [] xs = true) : xs = [] := by cases xs <;> simp_all [zq1839]
theorem zq1835 {b : Bool} {r xs : List Value} (h : zq1839 (.bool b :: r) xs = true) : ∃ x r',xs = .bool x :: r' ∧ zq1839 r r' = true := by
 cases xs with
 | nil => simp [zq1839] at h
 | cons v r' => cases v <;> simp [zq1839] at h; exact ⟨_,r',rfl,h⟩
theorem zq1836 {k : IntKind} {n : Int} {r xs : List Value} (h : zq1839 (.int k n :: r) xs = true) : ∃ x r',xs = .int k x :: r' ∧ zq1839 r r' = true := by
 cases xs with
 | nil => simp [zq1839] at h
 | cons v r' => cases v <;> simp [zq1839] at h; obtain ⟨rfl,h⟩ := h; exact ⟨_,r',rfl,h⟩
theorem zq1838 {s : ByteArray} {r xs : List Value} (h : zq1839 (.string s :: r) xs = true) : ∃ x r',xs = .string x :: r' ∧ zq1839 r r' = true := by
 cases xs with
 | nil => simp [zq1839] at h
 | cons v r' => cases v <;> simp [zq1839] at h; exact ⟨_,r',rfl,h⟩
end Go.Ma
