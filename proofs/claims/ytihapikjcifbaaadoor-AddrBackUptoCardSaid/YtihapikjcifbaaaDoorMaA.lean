/-
  THE MACHINE, part A: an interpreter of the translated code over values without addresses: its values, its memory, its steps. It answers 'some x' only where the code runs to its end without a panic. It speaks of no one program but for the kinds of its structs.
-/
import Derived.WalkKit
import Derived.Deep.Quiet
import Derived.Deep.Draws
import Derived.KernelRfl
import Derived.Still
namespace Go.Ma
open Go Go.RowKit

/-! Leaves. -/
/-- Is it an int? (In this form it does not unfold to numerals.) -/
def i64ok (x : Int) : Bool := match x with | .ofNat n => Nat.ble n 9223372036854775807 | .negSucc n => Nat.ble n 9223372036854775807
theorem i64ok_iff {x : Int} : i64ok x = true ↔ -9223372036854775808 ≤ x ∧ x < 9223372036854775808 := by
  unfold i64ok
  cases x with
  | ofNat n => simp only [Nat.ble_eq, Int.ofNat_eq_natCast]; omega
  | negSucc n => simp only [Nat.ble_eq, Int.negSucc_eq]; omega
/-- int's ring operations, exactly. -/
def iop (o : BinOp) (x y : Int) : Int :=
  match o with
  | .add => x + y
  | .sub => x - y
  | .mul => x * y
  | _ => 0
def aop (o : BinOp) (k : IntKind) (x y : Int) : Int :=
  match o with
  | .add => k.wrap (x + y)
  | .sub => k.wrap (x - y)
  | .mul => k.wrap (x * y)
  | .quo => k.wrap (x.tdiv y)
  | .rem => x.tmod y
  | .and => k.wrap (BitVec.ofInt k.bits x &&& BitVec.ofInt k.bits y).toNat
  | .or => k.wrap (BitVec.ofInt k.bits x ||| BitVec.ofInt k.bits y).toNat
  | .xor => k.wrap (BitVec.ofInt k.bits x ^^^ BitVec.ofInt k.bits y).toNat
  | .andNot => k.wrap (BitVec.ofInt k.bits x &&& ~~~ BitVec.ofInt k.bits y).toNat
  | .shl => k.wrap (x * 2 ^ (min y.toNat k.bits))
  | .shr => x.fdiv (2 ^ (min y.toNat k.bits))
  | _ => 0
def acmp (o : BinOp) (x y : Int) : Bool :=
  match o with
  | .eql => decide (x = y) | .neq => !decide (x = y) | .lss => decide (x < y) | .leq => decide (x ≤ y) | .gtr => decide (x > y) | .geq => decide (x ≥ y) | _ => false
def strcmp (o : BinOp) (x y : ByteArray) : Bool :=
  let eq := x.toList == y.toList
  let lt := Op.bytesLess x.toList y.toList
  match o with
  | .eql => eq | .neq => !eq | .lss => lt | .leq => lt || eq | .gtr => !(lt || eq) | .geq => !lt | _ => false
def byteAt (s : ByteArray) (i : Int) : Int := match s[i.toNat]? with | some b => b.toNat | none => 0
def lenS (s : ByteArray) : Int := (s.size : Int)
def subS (s : ByteArray) (lo hi : Int) : ByteArray := s.extract lo.toNat hi.toNat
def catS (s t : ByteArray) : ByteArray := s ++ t
def inRange (i : Int) (n : Int) : Bool := decide (0 ≤ i) && decide (i < n)
def isNil (b : Bool) : Bool := !b
def beqB (x y : Bool) : Bool := x == y
def minI (x y : Int) : Int := if y < x then y else x
def convI (k : IntKind) (x : Int) : Int := k.wrap x
def lenL {α : Type} (l : List α) : Int := (l.length : Int)
/-- Element i. -/
def geti {α : Type} (l : List α) (i : Int) : Option α := if 0 ≤ i then l[i.toNat]? else none
def seti {α : Type} (l : List α) (i : Int) (a : α) : List α := l.set i.toNat a
/-- Room for so many more. (In this form it does not unfold to numerals.) -/
def roomS (s : ByteArray) : Bool := Nat.ble s.size 9223372036854775807
def room (a b : Int) : Bool := Nat.ble (a.toNat + b.toNat) 274877906944
def subL {α : Type} (l : List α) (lo hi : Int) : List α := (l.take hi.toNat).drop lo.toNat
def bytesOf (l : List Int) : ByteArray := ⟨(l.map fun n => UInt8.ofNat n.toNat).toArray⟩

/-! The structs of the program, as data. -/
structure Ad where
  v6 : Bool
  hi : Int
  lo : Int
  deriving DecidableEq, Inhabited
structure Pf where
  ad : Ad
  bits : Int
  deriving DecidableEq, Inhabited
structure Ls where
  ad : Ad
  who : ByteArray
  upto : Int
  deriving DecidableEq, Inhabited
structure Oq where
  kind : Int
  pf : Pf
  ad : Ad
  who : ByteArray
  of_ : Int
  n : Int
  deriving DecidableEq, Inhabited
structure En where
  num : Int
  epoch : Int
  op : Oq
  deriving DecidableEq, Inhabited
structure Ev where
  kind : Int
  who : Int
  n : Int
  op : Oq
  deriving DecidableEq, Inhabited

/-- Kinds of cells and of elements. -/
inductive K where
  | int | u64 | u8 | bool | str | addr | pfx | lease | op | entry | event
  deriving DecidableEq, Inhabited
def K.T : K → Type
  | .int => Int | .u64 => Int | .u8 => Int | .bool => Bool | .str => ByteArray
  | .addr => Ad | .pfx => Pf | .lease => Ls | .op => Oq | .entry => En | .event => Ev
def K.sz : K → Nat
  | .int => 1 | .u64 => 1 | .u8 => 1 | .bool => 1 | .str => 1
  | .addr => 3 | .pfx => 4 | .lease => 5 | .op => 11 | .entry => 13 | .event => 14
def K.isAgg : K → Bool
  | .addr => true | .pfx => true | .lease => true | .op => true | .entry => true | .event => true
  | _ => false

/-- Symbolic values. 'ptr j off': into block object j. 'row j': the slice that is object j. 'ep j i sz off': the address of cell off of element i of row j (elements of sz cells). -/
inductive SV where
  | b (x : Bool) | i (k : IntKind) (x : Int) | s (x : ByteArray)
  | v (x : Value) | any | undef
  | ptr (j off : Nat)
  | row (j : Nat)
  | ep (j : Nat) (i : Int) (sz off : Nat)
  | agg (l : List SV) | tup (l : List SV)
  | fn (f : FuncId) (caps : List SV)
  deriving Inhabited

def Ad.cells (a : Ad) : List SV := [.b a.v6, .i .u64 a.hi, .i .u64 a.lo]
def Pf.cells (p : Pf) : List SV := [.b p.ad.v6, .i .u64 p.ad.hi, .i .u64 p.ad.lo, .i .i64 p.bits]
def Oq.cells (o : Oq) : List SV := [.i .i64 o.kind, .b o.pf.ad.v6, .i .u64 o.pf.ad.hi, .i .u64 o.pf.ad.lo, .i .i64 o.pf.bits, .b o.ad.v6, .i .u64 o.ad.hi, .i .u64 o.ad.lo, .s o.who, .i .i64 o.of_, .i .i64 o.n]
def K.enc : (k : K) → k.T → List SV
  | .int, (x : Int) => [.i .i64 x]
  | .u64, (x : Int) => [.i .u64 x]
  | .u8, (x : Int) => [.i .u8 x]
  | .bool, (x : Bool) => [.b x]
  | .str, (x : ByteArray) => [.s x]
  | .addr, (a : Ad) => [.b a.v6, .i .u64 a.hi, .i .u64 a.lo]
  | .pfx, (p : Pf) => [.b p.ad.v6, .i .u64 p.ad.hi, .i .u64 p.ad.lo, .i .i64 p.bits]
  | .lease, (x : Ls) => [.b x.ad.v6, .i .u64 x.ad.hi, .i .u64 x.ad.lo, .s x.who, .i .i64 x.upto]
  | .op, (o : Oq) => [.i .i64 o.kind, .b o.pf.ad.v6, .i .u64 o.pf.ad.hi, .i .u64 o.pf.ad.lo, .i .i64 o.pf.bits, .b o.ad.v6, .i .u64 o.ad.hi, .i .u64 o.ad.lo, .s o.who, .i .i64 o.of_, .i .i64 o.n]
  | .entry, (x : En) => [.i .i64 x.num, .i .i64 x.epoch, .i .i64 x.op.kind, .b x.op.pf.ad.v6, .i .u64 x.op.pf.ad.hi, .i .u64 x.op.pf.ad.lo, .i .i64 x.op.pf.bits, .b x.op.ad.v6, .i .u64 x.op.ad.hi, .i .u64 x.op.ad.lo, .s x.op.who, .i .i64 x.op.of_, .i .i64 x.op.n]
  | .event, (x : Ev) => [.i .i64 x.kind, .i .i64 x.who, .i .i64 x.n, .i .i64 x.op.kind, .b x.op.pf.ad.v6, .i .u64 x.op.pf.ad.hi, .i .u64 x.op.pf.ad.lo, .i .i64 x.op.pf.bits, .b x.op.ad.v6, .i .u64 x.op.ad.hi, .i .u64 x.op.ad.lo, .s x.op.who, .i .i64 x.op.of_, .i .i64 x.op.n]
def K.dec : (k : K) → List SV → Option k.T
  | .int, [.i .i64 x] => some x
  | .u64, [.i .u64 x] => some x
  | .u8, [.i .u8 x] => some x
  | .bool, [.b x] => some x
  | .str, [.s x] => some x
  | .addr, [.b v, .i .u64 h, .i .u64 l] => some (⟨v, h, l⟩ : Ad)
  | .pfx, [.b v, .i .u64 h, .i .u64 l, .i .i64 n] => some (⟨⟨v, h, l⟩, n⟩ : Pf)
  | .lease, [.b v, .i .u64 h, .i .u64 l, .s w, .i .i64 n] => some (⟨⟨v, h, l⟩, w, n⟩ : Ls)
  | .op, [.i .i64 k, .b v, .i .u64 h, .i .u64 l, .i .i64 n, .b v', .i .u64 h', .i .u64 l', .s w, .i .i64 o, .i .i64 m] => some (⟨k, ⟨⟨v, h, l⟩, n⟩, ⟨v', h', l'⟩, w, o, m⟩ : Oq)
  | .entry, [.i .i64 a, .i .i64 b, .i .i64 k, .b v, .i .u64 h, .i .u64 l, .i .i64 n, .b v', .i .u64 h', .i .u64 l', .s w, .i .i64 o, .i .i64 m] => some (⟨a, b, ⟨k, ⟨⟨v, h, l⟩, n⟩, ⟨v', h', l'⟩, w, o, m⟩⟩ : En)
  | .event, [.i .i64 a, .i .i64 b, .i .i64 c, .i .i64 k, .b v, .i .u64 h, .i .u64 l, .i .i64 n, .b v', .i .u64 h', .i .u64 l', .s w, .i .i64 o, .i .i64 m] => some (⟨a, b, c, ⟨k, ⟨⟨v, h, l⟩, n⟩, ⟨v', h', l'⟩, w, o, m⟩⟩ : Ev)
  | _, _ => none

/-! What values mean, under a naming of the objects. -/
def ptrOff (v : Value) (off : Nat) : Value :=
  match v with
  | .pointer (some a) => .pointer (some (a.add off))
  | _ => .nilFunc
def elemPtr (v : Value) (i off : Nat) : Value :=
  match v with
  | .slice (some a) _ _ => .pointer (some ((a.add i).add off))
  | _ => .nilFunc
def sliceVal (v : Value) : Value :=
  match v with
  | .slice a n c => .slice a n c
  | _ => .nilFunc
mutual
def den (ρ : Nat → Value) : SV → Value
  | .b x => .bool x
  | .i k x => .int k x
  | .s x => .string x
  | .v x => x
  | .any => Go.undef
  | .undef => Go.undef
  | .ptr j off => ptrOff (ρ j) off
  | .row j => sliceVal (ρ j)
  | .ep j i sz off => elemPtr (ρ j) (i.toNat * sz) off
  | .agg l => .agg (denL ρ l).toArray
  | .tup l => .tuple (denL ρ l).toArray
  | .fn f caps => .func (.func f) #[] (denL ρ caps).toArray
def denL (ρ : Nat → Value) : List SV → List Value
  | [] => []
  | x :: r => den ρ x :: denL ρ r
end
mutual
/-- Only objects below n are spoken of. -/
def SV.lt (n : Nat) : SV → Bool
  | .ptr j _ => decide (j < n)
  | .row j => decide (j < n)
  | .ep j _ _ _ => decide (j < n)
  | .agg l => ltL n l
  | .tup l => ltL n l
  | .fn _ l => ltL n l
  | _ => true
def ltL (n : Nat) : List SV → Bool
  | [] => true
  | x :: r => SV.lt n x && ltL n r
end

/-! Memory. A row: elements of a kind; or its bare cells. -/
inductive C where
  | ty (k : K) (l : List k.T)
  | sv (cs : List SV) (sz n : Nat)
def C.sz : C → Nat
  | .ty k _ => k.sz
  | .sv _ sz _ => sz
def C.n : C → Nat
  | .ty _ l => l.length
  | .sv _ _ n => n
def C.len : C → Int
  | .ty _ l => lenL l
  | .sv _ _ n => (n : Int)
def C.den (ρ : Nat → Value) : C → List Value
  | .ty k l => l.flatMap fun a => denL ρ (k.enc a)
  | .sv cs _ _ => denL ρ cs
def C.lt (n : Nat) : C → Bool
  | .ty _ _ => true
  | .sv cs _ _ => ltL n cs
inductive Obj where
  | blk (cs : List SV) (ty : TypeId) (own : Bool)
  | row (c : C) (ty : TypeId) (own : Bool)
  | dead
instance : Inhabited Obj := ⟨.dead⟩
abbrev Mem := List Obj
structure St where
  t : List SV
  m : Mem

/-- What the machine wants to know of a type. -/
inductive TK where
  | bool | int (k : IntKind) | str | slice | struct | other
  deriving Inhabited
structure TI where
  known : Bool := true
  kind : TK
  agg : Bool
  size : Nat
  zero : List Value
  fields : List (Nat × TypeId)
  elem : TypeId
  bytes : Nat := 0
  eq : Bool := false
  k : Option K := none
  deriving Inhabited
def tiOf (P : Program) (t : TypeId) : TI :=
  match P.info? t, P.underlying t with
  | some i, some d =>
    { known := i.zero.isSome
      kind := match d with | .bool => .bool | .int k => .int k | .string => .str | .slice _ => .slice | .struct _ => .struct | _ => .other
      agg := match d with | .struct _ | .array _ _ => true | _ => false
      size := i.size
      zero := match i.zero with | some v => v.cells.toList | none => []
      fields := match d with | .struct fs => fs.toList.map fun f => (f.offset, f.type) | _ => []
      elem := match d with | .slice e => e | .array _ e => e | _ => 0
      bytes := i.bytes }
  | _, _ => { known := false, kind := .other, agg := false, size := 0, zero := [], fields := [], elem := 0 }

/-! Values as symbolic values, and the operands. -/
def ofC : Value → SV
  | .bool b => .b b
  | .int k n => .i k n
  | .string s => .s s
  | x => .v x
def ofV : Value → SV
  | .agg cs => .agg (cs.toList.map ofC)
  | x => ofC x
def ev (t : List SV) : Operand → SV
  | .tmp i => t.getD i .any
  | .const v => ofV v
  | .global g => .v (.pointer (some ⟨g, 0, none⟩))
  | .func f => .fn f []
def SV.isAny : SV → Bool
  | .any => true
  | _ => false
def SV.cells : SV → List SV
  | .agg l => l
  | x => [x]
def oneC : Value → Bool
  | .agg _ | .tuple _ => false
  | _ => true
/-- Is it the value of one cell (and known)? -/
def SV.one : SV → Bool
  | .any | .undef | .agg _ | .tup _ => false
  | .v x => oneC x
  | _ => true
def isCmp : BinOp → Bool
  | .eql | .neq | .lss | .leq | .gtr | .geq => true
  | _ => false
def isShift : BinOp → Bool
  | .shl | .shr => true
  | _ => false
def isDiv : BinOp → Bool
  | .quo | .rem => true
  | _ => false
def isRing : BinOp → Bool
  | .add | .sub | .mul => true
  | _ => false
def isEql : BinOp → Bool
  | .eql => true
  | _ => false
def isNeq : BinOp → Bool
  | .neq => true
  | _ => false
def isAdd : BinOp → Bool
  | .add => true
  | _ => false
/-- Cells that are compared one by one: bools, integers, strings. -/
def eqCell : SV → SV → Option Bool
  | .b x, .b y => some (beqB x y)
  | .i _ x, .i _ y => some (acmp .eql x y)
  | .s x, .s y => some (strcmp .eql x y)
  | _, _ => none
def eqCells : List SV → List SV → Option Bool
  | [], [] => some true
  | x :: r, y :: r' =>
    match eqCell x y with
    | none => none
    | some e => if r.isEmpty && r'.isEmpty then some e else (eqCells r r').map fun f => e && f
  | _, _ => none
def fillAt (cs : List SV) (off : Nat) (xs : List SV) : List SV := cs.take off ++ xs ++ cs.drop (off + xs.length)
def buildS (T : Nat → TI) (t : List SV) (fs : List (Nat × TypeId)) : List (Nat × Operand) → List SV → Option (List SV)
  | [], cs => some cs
  | (i, x) :: r, cs =>
    match fs[i]?, ev t x with
    | some (off, ft), sv => if sv.isAny || !(T ft).known || !sv.cells.all (·.one) || sv.cells.length != (T ft).size || decide (cs.length < off + sv.cells.length) then none else buildS T t fs r (fillAt cs off sv.cells)
    | none, _ => none
/-- n cells from off on, all known. -/
def takeCells (cs : List SV) (off n : Nat) : Option (List SV) :=
  if cs.length < off + n then none else if ((cs.drop off).take n).all (·.one) then some ((cs.drop off).take n) else none
/-- What a variable of type ty holds whose cells are these. -/
def valOf (ti : TI) (cs : List SV) : Option SV :=
  if ti.agg then some (.agg cs) else match cs with | [c] => some c | _ => none
def kindsOk : List Value → List SV → Bool
  | [], [] => true
  | .bool _ :: r, .b _ :: r' => kindsOk r r'
  | .int k _ :: r, .i k' _ :: r' => decide (k = k') && kindsOk r r'
  | .string _ :: r, .s _ :: r' => kindsOk r r'
  | _, _ => false
/-- A row's elements as a row of a kind. -/
def chunks (k : K) : Nat → List SV → Option (List k.T)
  | 0, cs => if cs.isEmpty then some [] else none
  | n + 1, cs => match k.dec (cs.take k.sz), chunks k n (cs.drop k.sz) with | some a, some r => some (a :: r) | _, _ => none
def mkRow (ti : TI) (cs : List SV) (n : Nat) : C :=
  match ti.k with
  | some k => if k.sz == ti.size then (match chunks k n cs with | some l => .ty k l | none => .sv cs ti.size n) else .sv cs ti.size n
  | none => .sv cs ti.size n

/-- A quiet operation: what must hold, and its value. -/
def opq (T : Nat → TI) (t : List SV) (m : Mem) : Op → Option (Bool × SV)
  | .move x | .assign x => some (true, ev t x)
  | .pick c a b =>
    match ev t c with
    | .b true => some (true, ev t a)
    | .b false => some (true, ev t b)
    | _ => none
  | .load ty a =>
    match ev t a with
    | .ptr j off =>
      match m[j]? with
      | some (.blk cs _ _) => if (T ty).known then (takeCells cs off (T ty).size).bind fun l => (valOf (T ty) l).map fun v => (true, v) else none
      | _ => none
    | .ep j n sz off =>
      match m[j]? with
      | some (.row (.sv cs rsz rn) _ _) => if (T ty).known && (rsz == sz) && decide (0 < (T ty).size) then (takeCells cs (n.toNat * sz + off) (T ty).size).bind fun l => (valOf (T ty) l).map fun v => (inRange n rn, v) else none
      | _ => none
    | _ => none
  | .fieldAddr ty x f =>
    match (T ty).fields[f]?, (T ty).kind with
    | some (o, ft), .struct =>
      if (T ty).known && (T ft).known && decide ((T ft).size ≠ 0) then
        match ev t x with
        | .ptr j off => (match m[j]? with | some (.blk _ _ _) => some (true, .ptr j (off + o)) | _ => none)
        | .ep j i sz off => (match m[j]? with | some (.row c _ _) => some (inRange i c.len, .ep j i sz (off + o)) | _ => none)
        | _ => none
      else none
    | _, _ => none
  | .field ty x f =>
    match (T ty).fields[f]?, (T ty).kind, ev t x with
    | some (o, ft), .struct, .agg l => if (T ty).known && (T ft).known then (takeCells l o (T ft).size).bind fun c => (valOf (T ft) c).map fun v => (true, v) else none
    | _, _, _ => none
  | .build ty ps =>
    match (T ty).kind with
    | .struct => if (T ty).known && (T ty).fields.all (fun f => (T f.2).known) then (buildS T t (T ty).fields ps.toList ((T ty).zero.map ofC)).map fun cs => (true, .agg cs) else none
    | _ => none
  | .binOp o ty x y _ =>
    match ev t x, ev t y with
    | .i k a, .i k' b =>
      if isShift o then some (decide (0 ≤ b), .i k (aop o k a b))
      else if k = k' then
        if isCmp o then some (true, .b (acmp o a b))
        else if isDiv o then some (!decide (b = 0), .i k (aop o k a b))
        else if isRing o && decide (k = .i64) then some (i64ok (iop o a b), .i k (iop o a b))
        else some (true, .i k (aop o k a b))
      else none
    | .b a, .b b => match (T ty).kind with
      | .bool => if (T ty).known then (if isEql o then some (true, .b (beqB a b)) else if isNeq o then some (true, .b (!(beqB a b))) else none) else none
      | _ => none
    | .agg a, .agg b =>
      if (T ty).eq && kindsOk (T ty).zero a && kindsOk (T ty).zero b then (if isEql o then (eqCells a b).map fun e => (true, .b e) else if isNeq o then (eqCells a b).map fun e => (true, .b (!e)) else none) else none
    | .s a, .s b =>
      if isCmp o then some (true, .b (strcmp o a b))
      else if isAdd o then some (roomS (catS a b), .s (catS a b))
      else none
    | _, _ => none
  | .unOp .not _ x => match ev t x with | .b e => some (true, .b (!e)) | _ => none
  | .convert src dst x =>
    match (T src).known, (T dst).known, (T dst).kind, ev t x with
    | true, true, .int k, .i _ e => some (true, .i k (convI k e))
    | true, true, .str, .row j =>
      (match (T src).kind, (T (T src).elem).known, (T (T src).elem).kind, m[j]? with
      | .slice, true, .int .u8, some (.row (.ty .u8 l) _ _) => some (true, .s (bytesOf l))
      | _, _, _, _ => none)
    | _, _, _, _ => none
  | .extract x i => match ev t x with | .tup l => (match l[i]? with | some v => if v.isAny then none else some (true, v) | none => none) | _ => none
  | .nilCheck x => match ev t x with | .ptr j off => (match m[j]? with | some (.blk _ _ _) => some (true, .ptr j off) | _ => none) | _ => none
  | .makeFunc (.func f) first caps => if first.isEmpty && caps.toList.all (fun x => !(ev t x).isAny) then some (true, .fn f (caps.toList.map (ev t))) else none
  | .index ty x i =>
    match (T ty).known, (T ty).kind, ev t x, ev t i with
    | true, .str, .s s, .i _ e => some (inRange e (lenS s), .i .u8 (byteAt s e))
    | _, _, _, _ => none
  | .indexAddr ty x i =>
    match (T ty).known, (T ty).kind, ev t x, ev t i with
    | true, .slice, .row j, .i _ e =>
      (match m[j]? with
      | some (.row c _ _) => if (T (T ty).elem).known && (T (T ty).elem).size == c.sz then some (inRange e c.len, .ep j e c.sz 0) else none
      | _ => none)
    | _, _, _, _ => none
  | .slice ty x lo hi none =>
    match (T ty).known, (T ty).kind, ev t x with
    | true, .str, .s es =>
      (match (match lo with | some l => (match ev t l with | .i _ e => some e | _ => none) | none => some 0), (match hi with | some h => (match ev t h with | .i _ e => some e | _ => none) | none => some (lenS es)) with
      | some l, some h => some (decide (0 ≤ l) && decide (l ≤ h) && decide (h ≤ lenS es), .s (subS es l h))
      | _, _ => none)
    | _, _, _ => none
  | .call c =>
    match c.callee, c.args.toList, c.argTypes.toList with
    | .builtin .len, [x], [at_] =>
      (match (T at_).known, (T at_).kind, ev t x with
      | true, .str, .s e => some (true, .i .i64 (lenS e))
      | true, .slice, .row j => (match m[j]? with | some (.row c _ _) => some (true, .i .i64 c.len) | _ => none)
      | true, .slice, .v (.slice none 0 0) => some (true, .i .i64 0)
      | _, _, _ => none)
    | .builtin .min, [x, y], _ =>
      (match ev t x, ev t y with
      | .i .i64 a, .i .i64 b => some (true, .i .i64 (minI a b))
      | _, _ => none)
    | _, _, _ => none
  | _ => none

/-- The cells of a slice literal. -/
def litCells (t : List SV) (sz n : Nat) : List (Nat × Operand) → List SV → Option (List SV)
  | [], cs => some cs
  | (i, x) :: r, cs => if (ev t x).isAny || !(ev t x).cells.all (·.one) || (ev t x).cells.length != sz || decide (n ≤ i) then none else litCells t sz n r (fillAt cs (i * sz) (ev t x).cells)
def repCells (z : List Value) : Nat → List SV
  | 0 => []
  | n + 1 => z.map ofC ++ repCells z n
/-- An operation that makes a new object: it, and what the operation yields (j: the new object's number). -/
def opa (T : Nat → TI) (t : List SV) : Op → Option (Obj × (Nat → SV))
  | .box ty x => if (ev t x).isAny then none else if (ev t x).cells.all (·.one) then some (.blk (ev t x).cells ty true, fun j => .ptr j 0) else none
  | .alloc ty => if (T ty).known then some (.blk ((T ty).zero.map ofC) ty true, fun j => .ptr j 0) else none
  | .buildSlice ty n ps =>
    match (T ty).known, (T ty).kind, (T (T ty).elem).known with
    | true, .slice, true =>
      if decide (0 < (T (T ty).elem).size) && decide (n * (T (T ty).elem).size ≤ 4096) && (T (T ty).elem).zero.length == (T (T ty).elem).size && (T (T ty).elem).zero.all oneC then
        (litCells t (T (T ty).elem).size n ps.toList (repCells (T (T ty).elem).zero n)).map fun cs => (.row (mkRow (T (T ty).elem) cs n) (T ty).elem true, fun j => .row j)
      else none
    | _, _, _ => none
  | _ => none
/-- A nil slice that is laid down: an empty row of the call's own. -/
def opnil (T : Nat → TI) (ty : TypeId) : Op → Option Obj
  | .move (.const (.slice none 0 0)) | .assign (.const (.slice none 0 0)) =>
    match (T ty).known, (T ty).kind with
    | true, .slice => (match (T (T ty).elem).k with | some k => if (T (T ty).elem).known && (T (T ty).elem).size == k.sz then some (.row (.ty k []) (T ty).elem true) else none | none => none)
    | _, _ => none
  | _ => none

/-- A row that may grow: where it stands (if it isn't nil), what it holds. -/
def ownRow (t : List SV) (m : Mem) (sz : Nat) (e : TypeId) (x : Operand) : Option (Option Nat × C) :=
  match ev t x with
  | .v (.slice none 0 0) => some (none, .sv [] sz 0)
  | .row j => (match m[j]? with | some (.row c ty true) => if c.sz == sz && ty == e then some (some j, c) else none | _ => none)
  | _ => none
def srcRow (t : List SV) (m : Mem) (sz : Nat) (x : Operand) : Option (Option Nat × C) :=
  match ev t x with
  | .v (.slice none 0 0) => some (none, .sv [] sz 0)
  | .row j => (match m[j]? with | some (.row c _ _) => if c.sz == sz then some (some j, c) else none | _ => none)
  | _ => none
def castL {k k' : K} (h : k = k') (l : List k.T) : List k'.T := h ▸ l
/-- One row behind another one. -/
def C.cat : C → C → Option C
  | .ty k l, .ty k' l' => if h : k' = k then some (.ty k (l ++ castL h l')) else none
  | .ty k l, .sv [] _ 0 => some (.ty k l)
  | .sv [] _ 0, .ty k l => some (.ty k l)
  | .sv cs sz n, .sv cs' sz' n' => if sz == sz' then some (.sv (cs ++ cs') sz (n + n')) else none
  | _, _ => none
def killO (m : Mem) : Option Nat → Mem
  | some j => m.set j .dead
  | none => m
/-- append: what must hold, and the memory behind it; it yields the new last object. -/
def opap (T : Nat → TI) (t : List SV) (m : Mem) : Op → Option (Bool × Mem)
  | .call c =>
    match c.callee, c.args.toList, c.argTypes.toList with
    | .builtin .append, [x, y], [ty, ty'] =>
      if ty == ty' && (T ty).known && (T (T ty).elem).known && decide (0 < (T (T ty).elem).size) && decide ((T (T ty).elem).bytes ≤ 256) && (T (T ty).elem).zero.length == (T (T ty).elem).size then
        match (T ty).kind, ownRow t m (T (T ty).elem).size (T ty).elem x, srcRow t m (T (T ty).elem).size y with
        | .slice, some (j, c), some (j', c') =>
          if j.isSome && j == j' then none
          else match c.cat c' with
            | some d => some (room c.len c'.len, killO m j ++ [.row d (T ty).elem true])
            | none => none
        | _, _, _ => none
      else none
    | _, _, _ => none
  | _ => none
def bndE (t : List SV) (x : Option Operand) (d : Int) : Option Int :=
  match x with
  | some l => (match ev t l with | .i _ e => some e | _ => none)
  | none => some d
/-- Part of a row. -/
def C.sub : C → Int → Int → C
  | .ty k l, lo, hi => .ty k (subL l lo hi)
  | .sv cs sz _, lo, hi => .sv ((cs.take (hi.toNat * sz)).drop (lo.toNat * sz)) sz (hi.toNat - lo.toNat)
/-- A slice of a row: what must hold, and the memory behind it (a row that could grow may not be used any more: its first elements may grow in its place); it yields the new last object. -/
def opsl (T : Nat → TI) (t : List SV) (m : Mem) : Op → Option (Bool × Mem)
  | .slice ty x lo hi none =>
    match (T ty).known, (T ty).kind, ev t x with
    | true, .slice, .row j =>
      (match m[j]? with
      | some (.row c bt own) =>
        if (T (T ty).elem).known && (T (T ty).elem).size == c.sz then
          (match bndE t lo 0, bndE t hi c.len with
          | some l, some h => some (decide (0 ≤ l) && decide (l ≤ h) && decide (h ≤ c.len), killO m (if own then some j else none) ++ [.row (c.sub l h) bt (own && lo.isNone)])
          | _, _ => none)
        else none
      | _ => none)
    | _, _, _ => none
  | _ => none
/-- A load out of a row of a kind. -/
structure RdL where
  k : K
  l : List k.T
  i : Int
  off : Nat
  ti : TI
def oprd (T : Nat → TI) (t : List SV) (m : Mem) : Op → Option RdL
  | .load ty a =>
    match ev t a with
    | .ep j i sz off =>
      (match m[j]? with
      | some (.row (.ty k l) _ _) => if (T ty).known && k.sz == sz && decide (0 < (T ty).size) then some ⟨k, l, i, off, T ty⟩ else none
      | _ => none)
    | _ => none
  | _ => none
/-- The value that is loaded. -/
def RdL.val (r : RdL) (a : r.k.T) : Option SV := (takeCells (r.k.enc a) r.off r.ti.size).bind (valOf r.ti)

/-- A store into a block: the memory behind it. -/
def opst (T : Nat → TI) (t : List SV) (m : Mem) : Op → Option Mem
  | .store ty a x =>
    match ev t a with
    | .ptr j off =>
      match m[j]? with
      | some (.blk cs bt true) =>
        if (T ty).known && !(ev t x).isAny && (ev t x).cells.all (·.one) && (ev t x).cells.length == (T ty).size && decide (off + (T ty).size ≤ cs.length) then some (m.set j (.blk (fillAt cs off (ev t x).cells) bt true)) else none
      | _ => none
    | _ => none
  | _ => none

/-- An element whose cells are overwritten. -/
def K.upd (k : K) (a : k.T) (off : Nat) (xs : List SV) : Option k.T := if off + xs.length ≤ k.sz then k.dec (fillAt (k.enc a) off xs) else none
/-- A store into an element of a row of the call's own. -/
structure StR where
  j : Nat
  k : K
  l : List k.T
  bt : TypeId
  i : Int
  off : Nat
  xs : List SV
def opsr (T : Nat → TI) (t : List SV) (m : Mem) : Op → Option StR
  | .store ty a x =>
    match ev t a with
    | .ep j i sz off =>
      match m[j]? with
      | some (.row (.ty k l) bt true) => if (T ty).known && k.sz == sz && !(ev t x).isAny && (ev t x).cells.all (·.one) && (ev t x).cells.length == (T ty).size then some ⟨j, k, l, bt, i, off, (ev t x).cells⟩ else none
      | _ => none
    | _ => none
  | _ => none
def StR.mem (r : StR) (m : Mem) (b : r.k.T) : Mem := m.set r.j (.row (.ty r.k (seti r.l r.i b)) r.bt true)

/-- The rest of a row of the call's own, sliced and cleared at once. -/
structure ClS where
  j : Nat
  k : K
  l : List k.T
  bt : TypeId
  e : Int
  z : k.T
def opcl (T : Nat → TI) (t : List SV) (m : Mem) (o : Oper) (r : List Oper) : Option ClS :=
  match o.op, o.dst, r with
  | .slice ty x (some lo) none none, some d, o' :: _ =>
    match o'.op, o'.dst, o'.guard with
    | .call c, none, none =>
      match c.callee, c.args.toList, c.argTypes.toList with
      | .builtin .clear, [.tmp d'], [ty'] =>
        if d' == d && ty' == ty && decide (d < t.length) && (T ty).known && (T (T ty).elem).known then
          match (T ty).kind, ev t x, bndE t (some lo) 0 with
          | .slice, .row j, some e =>
            match m[j]? with
            | some (.row (.ty k l) bt true) => if (T (T ty).elem).size == k.sz then (k.dec ((T (T ty).elem).zero.map ofC)).map fun z => ⟨j, k, l, bt, e, z⟩ else none
            | _ => none
          | _, _, _ => none
        else none
      | _, _, _ => none
    | _, _, _ => none
  | _, _, _ => none
/-- x ahead of place i. -/
def insL {α : Type} (l : List α) (i : Int) (x : α) : List α := l.take i.toNat ++ x :: l.drop i.toNat
/-- From place e on all is a. -/
def clrL {α : Type} (l : List α) (e : Int) (a : α) : List α := l.take e.toNat ++ List.replicate (l.length - e.toNat) a
def ClS.ok (c : ClS) : Bool := decide (0 ≤ c.e) && decide (c.e ≤ lenL c.l)
def ClS.mem (c : ClS) (m : Mem) : Mem := m.set c.j (.row (.ty c.k (clrL c.l c.e c.z)) c.bt true)

/-! ### Steps. -/
section
variable {X : Type}
def br (c : Bool) (a b : Option X) : Option X := match c with | true => a | false => b
def req (c : Bool) (a : Option X) : Option X := match c with | true => a | false => none
end

/-! ### States cut down to what is kept, their objects numbered anew. -/
mutual
def SV.refs : SV → List Nat
  | .ptr j _ => [j]
  | .row j => [j]
  | .ep j _ _ _ => [j]
  | .agg l => refsL l
  | .tup l => refsL l
  | .fn _ l => refsL l
  | _ => []
def refsL : List SV → List Nat
  | [] => []
  | x :: r => x.refs ++ refsL r
end
mutual
def SV.ren (σ : Nat → Option Nat) : SV → Option SV
  | .ptr j o => (σ j).map fun k => .ptr k o
  | .row j => (σ j).map fun k => .row k
  | .ep j i sz o => (σ j).map fun k => .ep k i sz o
  | .agg l => (renL σ l).map fun l => .agg l
  | .tup l => (renL σ l).map fun l => .tup l
  | .fn f l => (renL σ l).map fun l => .fn f l
  | .b x => some (.b x) | .i k x => some (.i k x) | .s x => some (.s x) | .v x => some (.v x) | .any => some .any | .undef => some .undef
def renL (σ : Nat → Option Nat) : List SV → Option (List SV)
  | [] => some []
  | x :: r => (x.ren σ).bind fun y => (renL σ r).map fun l => y :: l
end
def Obj.refs : Obj → List Nat
  | .dead => []
  | .blk cs _ _ => refsL cs
  | .row (.ty _ _) _ _ => []
  | .row (.sv cs _ _) _ _ => refsL cs
def Obj.ren (σ : Nat → Option Nat) : Obj → Option Obj
  | .dead => some .dead
  | .blk cs ty own => (renL σ cs).map fun cs => .blk cs ty own
  | .row (.ty k l) ty own => some (.row (.ty k l) ty own)
  | .row (.sv cs sz n) ty own => (renL σ cs).map fun cs => .row (.sv cs sz n) ty own
def renOs (σ : Nat → Option Nat) : List Obj → Option (List Obj)
  | [] => some []
  | x :: r => (x.ren σ).bind fun y => (renOs σ r).map fun l => y :: l
def addNew (base : Nat) : List Nat → List Nat → List Nat
  | acc, [] => acc
  | acc, j :: r => if decide (j < base) || acc.contains j then addNew base acc r else addNew base (acc ++ [j]) r
def place (l : List Nat) (j : Nat) : Option Nat :=
  match l with
  | [] => none
  | x :: r => if x == j then some 0 else (place r j).map (· + 1)
/-- What is kept of a state. -/
structure Cp where
  vals : List SV
  objs : List Obj
def keptAt (base : Nat) (keep : List Nat) (s : St) : List Nat :=
  let vs := keep.map fun i => s.t.getD i .any
  let r0 := addNew base [] (refsL vs ++ (s.m.take base).flatMap Obj.refs)
  let r1 := addNew base r0 (r0.flatMap fun j => (s.m.getD j .dead).refs)
  addNew base r1 (r1.flatMap fun j => (s.m.getD j .dead).refs)
def sig (base : Nat) (r : List Nat) (j : Nat) : Option Nat := if j < base then some j else (place r j).map (base + ·)
def norm (base : Nat) (keep : List Nat) (s : St) : Option Cp :=
  let r := keptAt base keep s
  (renL (sig base r) (keep.map fun i => s.t.getD i .any)).bind fun vs => (renOs (sig base r) (s.m.take base ++ r.map fun j => s.m.getD j .dead)).map fun os => ⟨vs, os⟩
/-- The slots of the list, all others forgotten. -/
def setSlots (t : List SV) : List (Nat × SV) → List SV
  | [] => t
  | (i, v) :: r => setSlots (t.set i v) r
def expand (n : Nat) (keep : List Nat) (c : Cp) : St := ⟨setSlots (List.replicate n .any) (keep.zip c.vals), c.objs⟩

/-! ### Forms of states. -/
mutual
def svEq : SV → SV → Bool
  | .ptr j o, .ptr k p => decide (j = k) && decide (o = p)
  | .row j, .row k => decide (j = k)
  | .undef, .undef => true
  | .any, .any => true
  | .v (.slice none 0 0), .v (.slice none 0 0) => true
  | .fn f l, .fn g r => decide (f = g) && svEqL l r
  | _, _ => false
def svEqL : List SV → List SV → Bool
  | [], [] => true
  | x :: r, y :: s => svEq x y && svEqL r s
  | _, _ => false
end
/-- Cells: a datum of a kind, or a fixed value. -/
inductive LC where
  | fl (k : K)
  | cst (v : SV)
def LCsT : List LC → Type
  | [] => Unit
  | .fl k :: r => k.T × LCsT r
  | .cst _ :: r => LCsT r
/-- A kept slot's cells, and whether it holds a struct. -/
inductive LV where
  | one (c : LC)
  | agg (l : List LC)
def LV.T : LV → Type
  | .one c => LCsT [c]
  | .agg l => LCsT l
inductive LO where
  | blk (l : List LC) (ty : TypeId) (own : Bool)
  | row (k : K) (ty : TypeId) (own : Bool)
  | raw (l : List LC) (sz n : Nat) (ty : TypeId) (own : Bool)
  | dead
def LO.T : LO → Type
  | .blk l _ _ => LCsT l
  | .row k _ _ => List k.T
  | .raw l _ _ _ _ => LCsT l
  | .dead => Unit
def LVsT : List LV → Type
  | [] => Unit
  | v :: r => v.T × LVsT r
def LOsT : List LO → Type
  | [] => Unit
  | v :: r => v.T × LOsT r
structure Form where
  keep : List Nat
  vals : List LV
  objs : List LO
def Form.T (f : Form) : Type := LVsT f.vals × LOsT f.objs

def decLCs : (l : List LC) → List SV → Option (LCsT l)
  | [], [] => some ()
  | [], _ :: _ => none
  | .fl k :: r, cs => (k.dec (cs.take k.sz)).bind fun a => (decLCs r (cs.drop k.sz)).map fun b => (a, b)
  | .cst _ :: _, [] => none
  | .cst v :: r, c :: cs => bif svEq c v then decLCs r cs else none
def encLCs : (l : List LC) → LCsT l → List SV
  | [], _ => []
  | .fl k :: r, x => k.enc x.1 ++ encLCs r x.2
  | .cst v :: r, x => v :: encLCs r x
def SV.parts : SV → Option (List SV)
  | .agg l => some l
  | _ => none
def decLV : (v : LV) → SV → Option v.T
  | .one c, x => decLCs [c] [x]
  | .agg l, x => x.parts.bind (decLCs l)
def encLV : (v : LV) → v.T → SV
  | .one c, x => (encLCs [c] x).headD .any
  | .agg l, x => .agg (encLCs l x)
def rowL (k : K) (ty : TypeId) (own : Bool) : Obj → Option (List k.T)
  | .row (.ty k' l) ty' own' => if h : k' = k then (bif decide (ty' = ty) && (own' == own) then some (castL h l) else none) else none
  | _ => none
def blkL (ty : TypeId) (own : Bool) : Obj → Option (List SV)
  | .blk cs ty' own' => bif decide (ty' = ty) && (own' == own) then some cs else none
  | _ => none
def rawL (sz n : Nat) (ty : TypeId) (own : Bool) : Obj → Option (List SV)
  | .row (.sv cs sz' n') ty' own' => bif decide (ty' = ty) && (own' == own) && decide (sz' = sz) && decide (n' = n) then some cs else none
  | _ => none
def decLO : (v : LO) → Obj → Option v.T
  | .blk l ty own, o => (blkL ty own o).bind (decLCs l)
  | .row k ty own, o => rowL k ty own o
  | .raw l sz n ty own, o => (rawL sz n ty own o).bind (decLCs l)
  | .dead, _ => some ()
def encLO : (v : LO) → v.T → Obj
  | .blk l ty own, x => .blk (encLCs l x) ty own
  | .row k ty own, x => .row (.ty k x) ty own
  | .raw l sz n ty own, x => .row (.sv (encLCs l x) sz n) ty own
  | .dead, _ => .dead
def decLVs : (l : List LV) → List SV → Option (LVsT l)
  | [], [] => some ()
  | v :: r, x :: xs => (decLV v x).bind fun a => (decLVs r xs).map fun b => (a, b)
  | _, _ => none
def encLVs : (l : List LV) → LVsT l → List SV
  | [], _ => []
  | v :: r, x => encLV v x.1 :: encLVs r x.2
def decLOs : (l : List LO) → List Obj → Option (LOsT l)
  | [], [] => some ()
  | v :: r, x :: xs => (decLO v x).bind fun a => (decLOs r xs).map fun b => (a, b)
  | _, _ => none
def encLOs : (l : List LO) → LOsT l → List Obj
  | [], _ => []
  | v :: r, x => encLO v x.1 :: encLOs r x.2
def decF (f : Form) (c : Cp) : Option f.T := (decLVs f.vals c.vals).bind fun a => (decLOs f.objs c.objs).map fun b => (a, b)
def encF (f : Form) (x : f.T) : Cp := ⟨encLVs f.vals x.1, encLOs f.objs x.2⟩
/-- A state of the form. -/
def stF (n : Nat) (f : Form) (x : f.T) : St := expand n f.keep (encF f x)
/-- Is it of the form? -/
def isF (n base : Nat) (f : Form) (s : St) : Option f.T := bif decide (s.t.length = n) && decide (base ≤ s.m.length) then (norm base f.keep s).bind (decF f) else none

/-! ### Loops. -/
/-- An exit of a loop ('none': the function's end), and the form of the states there. -/
structure ExitF where
  at_ : Option Nat
  form : Form
def OutT : List ExitF → Type
  | [] => Empty
  | [x] => x.form.T
  | x :: r => x.form.T ⊕ OutT r
def atEq : Option Nat → Option Nat → Bool
  | none, none => true
  | some i, some j => i == j
  | _, _ => false
/-- A state at an exit, typed. -/
def outF (n base : Nat) : (l : List ExitF) → Option Nat → St → Option (OutT l)
  | [], _, _ => none
  | [x], i, s => bif atEq x.at_ i then isF n base x.form s else none
  | x :: y :: r, i, s => bif atEq x.at_ i then (isF n base x.form s).map Sum.inl else (outF n base (y :: r) i s).map Sum.inr
def sumC {A B X : Type} (o : A ⊕ B) (f : A → X) (g : B → X) : X := match o with | .inl a => f a | .inr b => g b
def goAt {X : Type} (n : Nat) (e : Nat → St → Option X) (r : St → Option X) (x : ExitF) (y : x.form.T) : Option X := match x.at_ with | some i => e i (stF n x.form y) | none => r (stF n x.form y)
/-- Going on from there. -/
def goOn {X : Type} (n : Nat) (e : Nat → St → Option X) (r : St → Option X) : (l : List ExitF) → OutT l → Option X
  | [], o => nomatch o
  | [x], y => goAt n e r x y
  | x :: z :: t, o => sumC o (fun y => goAt n e r x y) (fun o => goOn n e r (z :: t) o)
/-- A statement 'if' whose ways meet again: the forms of the states behind it. -/
structure JoinS where
  n : Nat
  exits : List ExitF
/-- The way on, among the exits. -/
def BIG : Nat := 1000000
/-- What a call comes to. -/
abbrev Tr := (X : Type) → List SV → Mem → (SV → Mem → Option X) → Option X
/-- What a loop comes to: from a state, by its exits. -/
abbrev LTr := (X : Type) → Nat → St → (Nat → St → Option X) → (St → Option X) → Option X
structure Con where
  tr : Tr
  q : Bool
  law : Bool
  /-- It answers alike whatever follows. -/
  det : Bool := law
structure Env where
  T : Nat → TI
  B : Nat → Bool
  call : FuncId → Option Con
  loop : Nat → Option LTr
  cond : Nat → Option JoinS := fun _ => none

def put (t : List SV) (d : Option Nat) (v : SV) : List SV := match d with | some d => t.set d v | none => t

section
variable {X : Type}
def resC (T : Nat → TI) (s : St) : ResultVar → Option SV
  | .tmp t => if (s.t.getD t .any).isAny then none else some (s.t.getD t .any)
  | .cell t ty =>
    match s.t.getD t .any with
    | .ptr j off =>
      (match s.m[j]? with
      | some (.blk cs _ _) => if (T ty).known then (takeCells cs off (T ty).size).bind (valOf (T ty)) else none
      | _ => none)
    | _ => none
def resL (T : Nat → TI) (s : St) : List ResultVar → Option (List SV)
  | [] => some []
  | r :: rs => match resC T s r, resL T s rs with | some v, some l => some (v :: l) | _, _ => none
def fin (T : Nat → TI) (rs : List ResultVar) (k : SV → Mem → Option X) (s : St) : Option X :=
  match resL T s rs with
  | some [v] => k v s.m
  | some l => k (.tup l) s.m
  | none => none

/-- A call: the callee and its arguments. -/
def opcall (E : Env) (t : List SV) : Op → Option (Con × List SV)
  | .call c =>
    match c.callee with
    | .value f =>
      match ev t f with
      | .fn f caps => if E.B f && (c.args.toList.map (ev t) ++ caps).all (fun x => !x.isAny) then (E.call f).map fun g => (g, c.args.toList.map (ev t) ++ caps) else none
      | _ => none
    | _ => none
  | _ => none
def opx (E : Env) (t : List SV) (o : Oper) (m : Mem) (k : SV → Mem → Option X) : Option X :=
  match opnil E.T o.type o.op with
  | some ob => k (.row m.length) (m ++ [ob])
  | none =>
  match opq E.T t m o.op with
  | some (c, v) => req c (k v m)
  | none =>
    match opa E.T t o.op with
    | some (ob, r) => k (r m.length) (m ++ [ob])
    | none =>
      match opst E.T t m o.op with
      | some m' => if o.dst.isNone then k .any m' else none
      | none =>
       match opap E.T t m o.op with
       | some (e, m') => req e (k (.row (m'.length - 1)) m')
       | none =>
       match opsl E.T t m o.op with
       | some (e, m') => req e (k (.row (m'.length - 1)) m')
       | none =>
        match oprd E.T t m o.op with
        | some r => (geti r.l r.i).bind fun a => match r.val a with | some v => k v m | none => none
        | none =>
        match opsr E.T t m o.op with
        | some r => if o.dst.isNone then ((geti r.l r.i).bind fun a => match r.k.upd a r.off r.xs with | some b => k .any (r.mem m b) | none => none) else none
        | none =>
        match opcall E t o.op with
        | some (g, args) => g.tr X args m k
        | none => none
def opxq (E : Env) (t : List SV) (o : Oper) (m : Mem) (k : SV → Option X) : Option X :=
  match opq E.T t m o.op with
  | some (c, v) => req c (k v)
  | none =>
   match oprd E.T t m o.op with
   | some r => (geti r.l r.i).bind fun a => match r.val a with | some v => k v | none => none
   | none =>
    match opcall E t o.op with
    | some (g, args) => if g.q then g.tr X args m (fun v _ => k v) else none
    | none => none

/-- Where the operations put what they answer. -/
def dsts (l : List Oper) : List (Option Nat) := l.map (·.dst)
theorem dsts_get (l : List Oper) (j : Nat) : ((dsts l)[j]?).bind id = (l[j]?).bind (·.dst) := by
  simp only [dsts, List.getElem?_map]
  cases l[j]? <;> rfl

open Classical in
/-- Both, if they are the same. -/
noncomputable def both (a b : Option X) : Option X := if a = b then a else none
/-- A slice that is compared with nil: 'neg': by !=. -/
def opnc (T : Nat → TI) (t : List SV) (m : Mem) : Op → Option (Bool × C)
  | .binOp o ty x (.const (.slice none 0 0)) _ =>
    match (T ty).known, (T ty).kind, ev t x with
    | true, .slice, .row j => (match m[j]? with | some (.row c _ _) => if isEql o then some (false, c) else if isNeq o then some (true, c) else none | _ => none)
    | _, _, _ => none
  | _ => none
/-- A slice of n elements: what comes if it is nil, what comes if it isn't. An empty one may be either. -/
noncomputable def nilB (n : Nat) (a b : Option X) : Option X := match n with | 0 => both a b | _ + 1 => b
noncomputable def opsx (E : Env) (all : List (Option Nat)) (n : St → Option X) : List Oper → St → Option X
  | [], s => n s
  | o :: r, s =>
    match o.guard with
    | none =>
      match opnc E.T s.t s.m o.op with
      | some (neg, c) => nilB c.n (opsx E all n r ⟨put s.t o.dst (.b (!neg)), s.m⟩) (opsx E all n r ⟨put s.t o.dst (.b neg), s.m⟩)
      | none => opx E s.t o s.m fun v m => opsx E all n r ⟨put s.t o.dst v, m⟩
    | some (j, want) =>
      match (all[j]?).bind id with
      | none => none
      | some d =>
        match s.t.getD d .any with
        | .b e =>
          match want with
          | true => br e (opx E (s.t.set d (.b true)) o s.m fun v m => opsx E all n r ⟨put (s.t.set d (.b true)) o.dst v, m⟩) (opsx E all n r ⟨put (s.t.set d (.b false)) o.dst .undef, s.m⟩)
          | false => br e (opsx E all n r ⟨put (s.t.set d (.b true)) o.dst .undef, s.m⟩) (opx E (s.t.set d (.b false)) o s.m fun v m => opsx E all n r ⟨put (s.t.set d (.b false)) o.dst v, m⟩)
        | .undef => opsx E all n r ⟨put s.t o.dst .undef, s.m⟩
        | _ => none
def opsxq (E : Env) (all : List (Option Nat)) (n : St → Option X) (m : Mem) : List Oper → List SV → Option X
  | [], t => n ⟨t, m⟩
  | o :: r, t =>
    match o.guard with
    | none => opxq E t o m fun v => opsxq E all n m r (put t o.dst v)
    | some (j, want) =>
      match (all[j]?).bind id with
      | none => none
      | some d =>
        match t.getD d .any with
        | .b e =>
          match want with
          | true => br e (opxq E (t.set d (.b true)) o m fun v => opsxq E all n m r (put (t.set d (.b true)) o.dst v)) (opsxq E all n m r (put (t.set d (.b false)) o.dst .undef))
          | false => br e (opsxq E all n m r (put (t.set d (.b true)) o.dst .undef)) (opxq E (t.set d (.b false)) o m fun v => opsxq E all n m r (put (t.set d (.b false)) o.dst v))
        | .undef => opsxq E all n m r (put t o.dst .undef)
        | _ => none
/-- Operations of which each may be quiet. -/
def quietB (E : Env) : Op → Bool
  | .box _ _ | .alloc _ | .store _ _ _ | .buildSlice _ _ _ | .makeSlice _ _ _ | .makeMap _ _ | .mapUpdate _ _ _ _ | .mapEntry _ _ _ | .entryStore _ _ _ _ | .insert _ _ _ _ | .panic _ | .defer _ | .go _ => false
  | .slice ty _ _ _ _ => (match (E.T ty).kind with | .str => true | _ => false)
  | .call c => (match c.callee with
    | .builtin .len => true
    | .builtin .min => true
    | .builtin _ => false
    | .value (.func f) => (match E.call f with | some g => g.q | none => false)
    | .value _ => true
    | .invoke _ _ => false)
  | _ => true
/-! Joins: guarded operations that come to one bool. -/
def isBoolC : Operand → Bool
  | .const (.bool _) => true
  | _ => false
/-- The first bool that guarded operations come to: how many operations, the slot. -/
def findPick : List Oper → Nat → Option (Nat × Nat)
  | [], _ => none
  | o :: r, i =>
    match o.op, o.guard, o.dst with
    | .pick _ a b, none, some d => if isBoolC a || isBoolC b then some (i + 1, d) else none
    | _, _, _ => findPick r (i + 1)
def segQ (E : Env) (o : Oper) : Bool :=
  match o.op with
  | .binOp _ _ _ (.const (.slice none 0 0)) _ => false
  | .call c => (match c.callee with | .value (.tmp _) => false | _ => quietB E o.op)
  | _ => quietB E o.op
def segOf (E : Env) (l : List Oper) : Option (List Oper × Nat × List Oper) :=
  match findPick l 0 with
  | some (k, d) => if (l.take k).all (segQ E) then some (l.take k, d, l.drop k) else none
  | none => none
def slotB (d : Nat) (s : St) : Option Bool := match s.t.getD d .any with | .b e => some e | _ => none
def clearL : List (Option Nat) → List SV → List SV
  | [], t => t
  | some d :: r, t => clearL r (t.set d .any)
  | none :: r, t => clearL r t
noncomputable def opsxj (E : Env) (all : List (Option Nat)) (n : St → Option X) : Nat → List Oper → St → Option X
  | 0, l, s => opsx E all n l s
  | _ + 1, [], s => n s
  | f + 1, o :: r, s =>
    match o.guard with
    | none =>
      match opcl E.T s.t s.m o r with
      | some c => req c.ok (opsxj E all n f r.tail ⟨put s.t o.dst .any, c.mem s.m⟩)
      | none =>
      match opnc E.T s.t s.m o.op with
      | some (neg, c) => nilB c.n (opsxj E all n f r ⟨put s.t o.dst (.b (!neg)), s.m⟩) (opsxj E all n f r ⟨put s.t o.dst (.b neg), s.m⟩)
      | none => opx E s.t o s.m fun v m => opsxj E all n f r ⟨put s.t o.dst v, m⟩
    | some _ =>
      match segOf E (o :: r) with
      | some (l1, d, l2) => (opsxq E all (slotB d) s.m l1 s.t).bind fun b => opsxj E all n f l2 ⟨(clearL (dsts l1) s.t).set d (.b b), s.m⟩
      | none => opsx E all n (o :: r) s
def opsxqj (E : Env) (all : List (Option Nat)) (n : St → Option X) (m : Mem) : Nat → List Oper → List SV → Option X
  | 0, l, t => opsxq E all n m l t
  | _ + 1, [], t => n ⟨t, m⟩
  | f + 1, o :: r, t =>
    match o.guard with
    | none => opxq E t o m fun v => opsxqj E all n m f r (put t o.dst v)
    | some _ =>
      match segOf E (o :: r) with
      | some (l1, d, l2) => (opsxq E all (slotB d) m l1 t).bind fun b => opsxqj E all n m f l2 ((clearL (dsts l1) t).set d (.b b))
      | none => opsxq E all n m (o :: r) t
/-! Regions that draw their order and hold operations that are not quiet: all orders of these. -/
/-- Operation i of a region, guarded or not. -/
def stepC (E : Env) (ops : Array Oper) (i : Nat) (s : St) (k : St → Option X) : Option X :=
  match ops[i]? with
  | none => none
  | some o =>
    match o.guard with
    | none => opx E s.t o s.m fun v m => k ⟨put s.t o.dst v, m⟩
    | some (j, want) =>
      match (ops[j]?).bind (·.dst) with
      | none => none
      | some d =>
        match s.t.getD d .any with
        | .b e =>
          match want with
          | true => br e (opx E (s.t.set d (.b true)) o s.m fun v m => k ⟨put (s.t.set d (.b true)) o.dst v, m⟩) (k ⟨put (s.t.set d (.b false)) o.dst .undef, s.m⟩)
          | false => br e (k ⟨put (s.t.set d (.b true)) o.dst .undef, s.m⟩) (opx E (s.t.set d (.b false)) o s.m fun v m => k ⟨put (s.t.set d (.b false)) o.dst v, m⟩)
        | .undef => k ⟨put s.t o.dst .undef, s.m⟩
        | _ => none
/-- An operation that leaves the elder objects as they are. -/
def growOp (E : Env) : Op → Bool
  | .store _ _ _ => false
  | .slice ty _ _ _ _ => (match (E.T ty).kind with | .str => true | _ => false)
  | .call c => (match c.callee with
    | .builtin .len => true
    | .builtin .min => true
    | .builtin _ => false
    | .value (.func f) => (match E.call f with | some g => g.law | none => false)
    | .value _ => false
    | .invoke _ _ => false)
  | _ => true
/-- An operation that looks at no memory. -/
def regOp : Op → Bool
  | .move _ | .assign _ | .pick _ _ _ | .binOp _ _ _ _ _ | .unOp _ _ _ | .extract _ _ | .build _ _ | .field _ _ _ | .makeFunc _ _ _ | .index _ _ _ => true
  | _ => false
/-- The operations for which each one waits, as bits. -/
def waitMask (acc : List Nat) (o : Oper) : Nat := o.after.toList.foldl (fun s e => if Region.binds .any e then s ||| 2 ^ e.on ||| acc.getD e.on 0 else s) 0
def waitL : List Oper → List Nat → List Nat
  | [], acc => acc
  | o :: r, acc => waitL r (acc ++ [waitMask acc o])
/-- May operation i come first, as far as the others go? -/
def statOk (E : Env) (ops : Array Oper) (i : Nat) : Bool :=
  match ops[i]? with
  | none => false
  | some oi => (List.range ops.size).all fun j => j == i || ((waitL ops.toList []).getD j 0).testBit i || ((waitL ops.toList []).getD i 0).testBit j || (match ops[j]? with | some oj => (regOp oi.op || growOp E oj.op) && oi.apart ops oj | none => true)
def isQuiet (E : Env) (ops : Array Oper) (i : Nat) (s : St) : Bool :=
  match ops[i]? with
  | none => false
  | some o => (opnil E.T o.type o.op).isNone && ((opq E.T s.t s.m o.op).isSome || (!regOp o.op && (oprd E.T s.t s.m o.op).isSome))
noncomputable def allB : List Nat → (Nat → Option X) → Option X
  | [], _ => none
  | [i], f => f i
  | i :: j :: r, f => both (f i) (allB (j :: r) f)
/-- The same, so often. -/
noncomputable def dup : Nat → Option X → Option X
  | 0, a => a
  | n + 1, a => both a (dup n a)
noncomputable def anyX (E : Env) (ops : Array Oper) (n : St → Option X) : Nat → Array Bool → St → Option X
  | 0, _, _ => none
  | fuel + 1, listed, s =>
    match Region.ready .any ops listed with
    | [] => n s
    | i :: r =>
      match (i :: r).find? (fun j => statOk E ops j && isQuiet E ops j s) with
      | some j => stepC E ops j s fun s' => anyX E ops n fuel (listed.setIfInBounds j true) s'
      | none => allB (i :: r) fun j => stepC E ops j s fun s' => anyX E ops n fuel (listed.setIfInBounds j true) s'
/-- Contracts alone. -/
def lawE (E : Env) : Env := { E with call := fun f => match E.call f with | some g => if g.det then some g else none | none => none }
/-- The first region of a piece of code: what a loop is called by. -/
def regId : Code → Nat
  | .region i _ _ => i
  | .seq a _ => regId a
  | .block _ b => regId b
  | .loop b => regId b
  | .cond _ a _ => regId a
  | _ => 0
end
def condKey : Operand → Nat
  | .tmp t => t
  | _ => BIG
/-- The ways on from where the ways of an 'if' meet. -/
def joinE {X : Type} (n : St → Option X) (e : Nat → St → Option X) : Nat → St → Option X := fun i s' => bif Nat.beq i BIG then n s' else e i s'
noncomputable def ix {X : Type} (E : Env) (base : Nat) : Code → St → (St → Option X) → (Nat → St → Option X) → (St → Option X) → Option X
  | .skip, s, n, _, _ => n s
  | .region _ ops false, s, n, _, _ => opsxj E (dsts ops.toList) n ops.toList.length ops.toList s
  | .seq a b, s, n, e, r => ix E base a s (fun s' => ix E base b s' n e r) e r
  | .cond c a b, s, n, e, r =>
    match ev s.t c with
    | .b x =>
      match E.cond (condKey c) with
      | some js =>
        (br x (ix E base a s (outF js.n base js.exits (some BIG)) (fun i s' => bif Nat.beq i BIG then none else outF js.n base js.exits (some i) s') (outF js.n base js.exits none))
          (ix E base b s (outF js.n base js.exits (some BIG)) (fun i s' => bif Nat.beq i BIG then none else outF js.n base js.exits (some i) s') (outF js.n base js.exits none))).bind fun y => goOn js.n (joinE n e) r js.exits y
      | none => br x (ix E base a s n e r) (ix E base b s n e r)
    | _ => none
  | .block i b, s, n, e, r => ix E base b s n (fun j s' => bif j == i then n s' else e j s') r
  | .loop b, s, _, e, r => match E.loop (regId b) with | some l => l X base s e r | none => none
  | .exit i, s, _, e, _ => e i s
  | .ret, s, _, _, r => r s
  | .region _ ops true, s, n, _, _ =>
    bif ops.toList.all (fun o => quietB E o.op) then (if Region.lexB .any ops then opsxqj E (dsts ops.toList) n s.m ops.toList.length ops.toList s.t else none)
    else bif Region.noSelect ops then anyX (lawE E) ops n (ops.size + 1) (Array.replicate ops.size false) s else none
  | _, _, _, _, _ => none
section
variable {X : Type}
/-- A function's body from its arguments on. -/
noncomputable def ixF (E : Env) (fn : Func) (args : List SV) (m : Mem) (k : SV → Mem → Option X) : Option X :=
  match fn.body with
  | some c => ix E m.length c ⟨args ++ List.replicate (fn.ntmps - args.length) .any, m⟩ (fin E.T fn.results.toList k) (fun _ _ => none) (fin E.T fn.results.toList k)
  | none => none
end
end Go.Ma
