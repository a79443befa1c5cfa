/- What one operation of the model's code does to abstract values: defined here, shown to be right in AvOpOk. -/
import Derived.Test.YtamnhodjidmlcaaAvPart
namespace Go.Av
open Go

/-! ### Frames -/

def look {α : Type} (k : Nat) : List (Nat × α) → Option α
  | [] => none
  | (j, v) :: l => if k == j then some v else if Nat.blt k j then none else look k l

def put {α : Type} (k : Nat) (v : α) : List (Nat × α) → List (Nat × α)
  | [] => [(k, v)]
  | (j, u) :: l => if k == j then (k, v) :: l else if Nat.blt k j then (k, v) :: (j, u) :: l else (j, u) :: put k v l

def mapV {α : Type} (f : α → α) : List (Nat × α) → List (Nat × α)
  | [] => []
  | (j, u) :: l => (j, f u) :: mapV f l

structure St where
  ents : List (Nat × AV)
  heap : List (Nat × AV)
  next : Nat

def St.get (s : St) (t : Nat) : AV := (look t s.ents).getD .top
def St.set (s : St) (t : Nat) (a : AV) : St := { s with ents := put t a s.ents }
def St.setO (s : St) (t : Option Nat) (a : AV) : St :=
  match t with
  | some t => s.set t a
  | none => s

/-- What an operation leaves: a value; a box that is new, and a value; a box of another content; a row that has been appended to (its tag goes from all other values), and a value. -/
inductive Eff where
  | val (a : AV)
  | new (id : Nat) (c a : AV)
  | put (id : Nat) (c : AV)
  | app (id : Nat) (a : AV)

def strike (id : Nat) (j : Nat) : Option Nat := if id == j then none else some j

def St.apply (s : St) (dst : Option Nat) : Eff → St
  | .val a => s.setO dst a
  | .new id c a => { s.setO dst a with heap := Av.put id c s.heap }
  | .put id c => { s.setO dst .top with heap := Av.put id c s.heap }
  | .app id a => { ents := mapV (·.ren (strike id) some) s.ents, heap := mapV (·.ren (strike id) some) s.heap, next := s.next : St }.setO dst a

/-! ### Values -/

def constAV : Value → AV
  | .int k n => .int k n
  | .bool b => .bool b
  | .string b => .str b.data.toList
  | v => if v.oneCell' then .lit v else .top

def opnd (s : St) : Operand → AV
  | .tmp t => s.get t
  | .const v => constAV v
  | .global _ => .top
  | .func f => ⟨.fn f (.ty .unit), ()⟩

def tyOf (P : Program) : Nat → TypeId → Option Ty
  | 0, _ => none
  | d + 1, t => match P.underlying t with
    | some (.int k) => some (.int k)
    | some .bool => some .bool
    | some .string => some .str
    | some (.func ..) => some .func
    | some (.slice e) => (tyOf P d e).map .sl
    | some (.array n e) => (tyOf P d e).map (.arr n)
    | some (.struct fs) => fields (tyOf P d) fs.toList
    | _ => none
 where
  fields (f : TypeId → Option Ty) : List Field → Option Ty
    | [] => some .unit
    | x :: l => match f x.type, fields f l with
      | some a, some b => some (.pair a b)
      | _, _ => none

def tyDepth : Nat := 12

/-- The zero value's cells, as abstract values, by the type; nil slices get tags. -/
def zeroAV (P : Program) : Nat → TypeId → List Value → Nat → Option (AV × Nat)
  | 0, _, _, _ => none
  | d + 1, t, cs, tag => match P.underlying t with
    | some (.struct fs) => fields (zeroAV P d) fs.toList cs tag
    | some (.array n e) => match tyOf P d e with
      | some τ => (elems (fun c => (zeroAV P d e c 0).bind fun x => x.1.as τ) (P.cellsOf e) n cs).map fun xs => (⟨.ty (.arr n τ), xs⟩, tag)
      | none => none
    | some (.slice e) => match cs with
      | [v] => if nilSl v then (match tyOf P d e with
        | some τ => some (⟨.osl tag τ, []⟩, tag + 1)
        | none => some (.lit v, tag)) else none
      | _ => none
    | _ => match cs with
      | [v] => if v.oneCell' then some (constAV v, tag) else none
      | _ => none
 where
  fields (f : TypeId → List Value → Nat → Option (AV × Nat)) : List Field → List Value → Nat → Option (AV × Nat)
    | [], [], tag => some (.unit, tag)
    | [], _ :: _, _ => none
    | x :: l, cs, tag => match f x.type (cs.take (P.cellsOf x.type)) tag with
      | some (a, tag) => (match fields f l (cs.drop (P.cellsOf x.type)) tag with
        | some (b, tag) => some (AV.mkPair a b, tag)
        | none => none)
      | none => none
  elems {α : Type} (f : List Value → Option α) (size : Nat) : Nat → List Value → Option (List α)
    | 0, [] => some []
    | 0, _ :: _ => none
    | n + 1, cs => match f (cs.take size), elems f size n (cs.drop size) with
      | some a, some l => some (a :: l)
      | _, _ => none

def zeroOf (P : Program) (t : TypeId) (tag : Nat) : Option AV :=
  match (P.info? t).bind (·.zero) with
  | some z => (zeroAV P tyDepth t z.cells.toList tag).map (·.1)
  | none => none

/-- The same without tags, where the type is plain. -/
def zeroTy (P : Program) (t : TypeId) : Option AV :=
  match zeroOf P t 0 with
  | some z => some (z.ren (fun _ => none) some)
  | none => none

/-! ### Arithmetic -/

def band (k : IntKind) (a b : Int) : Int := k.wrap (BitVec.ofInt k.bits a &&& BitVec.ofInt k.bits b).toNat
def bor (k : IntKind) (a b : Int) : Int := k.wrap (BitVec.ofInt k.bits a ||| BitVec.ofInt k.bits b).toNat
def bxor (k : IntKind) (a b : Int) : Int := k.wrap (BitVec.ofInt k.bits a ^^^ BitVec.ofInt k.bits b).toNat
def bnot (k : IntKind) (a b : Int) : Int := k.wrap (BitVec.ofInt k.bits a &&& ~~~(BitVec.ofInt k.bits b)).toNat
def ishl (k : IntKind) (a b : Int) : Int := k.wrap (a * 2 ^ min b.toNat k.bits)
def ishr (k : IntKind) (a b : Int) : Int := a.fdiv (2 ^ min b.toNat k.bits)
def icompl (k : IntKind) (a : Int) : Int := bxor k (if k.signed then -1 else k.max) a

/-- A result, under a condition. -/
abbrev Res (α : Type) := Option (Bool × α)
@[reducible] def yes {α : Type} (a : α) : Res α := some (true, a)

def intOp (op : BinOp) (k : IntKind) (a : Int) (k' : IntKind) (b : Int) : Res AV :=
  match op with
  | .shl => some (!decide (b < 0), .int k (ishl k a b))
  | .shr => some (!decide (b < 0), .int k (ishr k a b))
  | op => if k = k' then (match op with
    | .add => yes (.int k (k.wrap (a + b)))
    | .sub => yes (.int k (k.wrap (a - b)))
    | .mul => yes (.int k (k.wrap (a * b)))
    | .quo => some (!decide (b = 0), .int k (k.wrap (a.tdiv b)))
    | .rem => some (!decide (b = 0), .int k (a.tmod b))
    | .and => yes (.int k (band k a b))
    | .or => yes (.int k (bor k a b))
    | .xor => yes (.int k (bxor k a b))
    | .andNot => yes (.int k (bnot k a b))
    | .eql => yes (.bool (a == b))
    | .neq => yes (.bool (a != b))
    | .lss => yes (.bool (decide (a < b)))
    | .leq => yes (.bool (decide (a ≤ b)))
    | .gtr => yes (.bool (decide (a > b)))
    | .geq => yes (.bool (decide (a ≥ b)))
    | _ => none) else none

def strOp (op : BinOp) (a b : List UInt8) : Res AV :=
  match op with
  | .add => some (Nat.ble (a.length + b.length) 9223372036854775807, .str (a ++ b))
  | .eql => yes (.bool (a == b))
  | .neq => yes (.bool !(a == b))
  | .lss => yes (.bool (Op.bytesLess a b))
  | _ => none

def isStruct (P : Program) (t : TypeId) : Bool :=
  match P.underlying t with
  | some (.struct _) | some (.array _ _) => true
  | _ => false

def known (P : Program) (t : TypeId) : Bool := (P.underlying t).isSome

/-- Does Go's comparison of a type go by the plain one? -/
def eqTy (P : Program) : Nat → TypeId → Ty → Bool
  | 0, _, _ => false
  | d + 1, t, τ => match P.underlying t, τ with
    | some (.int _), .int _ => true
    | some .bool, .bool => true
    | some .string, .str => true
    | some (.struct fs), τ => !P.stoodInHeld t && fields (eqTy P d) fs.toList 0 τ
    | some (.array n e), .arr m τ => n == m && (eqTy P d e τ && (P.cellsOf e == τ.size && (isStruct P e == τ.agg && known P e)))
    | _, _ => false
 where
  fields (f : TypeId → Ty → Bool) : List Field → Nat → Ty → Bool
    | [], _, .unit => true
    | x :: l, off, .pair a b => x.name != "_" && (x.offset == off && (f x.type a && (P.cellsOf x.type == a.size && (isStruct P x.type == a.agg && (known P x.type && fields f l (off + a.size) b)))))
    | _, _, _ => false

def eqOk (P : Program) (t : TypeId) : Bool :=
  !P.eqGuardType P.depth t && match tyOf P tyDepth t with
    | some τ => eqTy P tyDepth t τ && τ.agg
    | none => false

/-- The values of a comparison by == on two values of one type, 'eqs': the struct types that are known to be compared plainly. -/
def eqOp (P : Program) (eqs : List TypeId) (t : TypeId) (x y : AV) : Option Bool :=
  match x, y with
  | ⟨.ty .bool, a⟩, ⟨.ty .bool, b⟩ => if P.underlying t matches some .bool then some ((a : Bool) == b) else none
  | ⟨.box .., _⟩, ⟨.lit (.pointer none), _⟩ => if P.underlying t matches some (.pointer _) then some false else none
  | ⟨.lit (.pointer none), _⟩, ⟨.box .., _⟩ => if P.underlying t matches some (.pointer _) then some false else none
  | ⟨.lit (.pointer none), _⟩, ⟨.lit (.pointer none), _⟩ => if P.underlying t matches some (.pointer _) then some true else none
  | ⟨.ref .., _⟩, ⟨.lit (.pointer none), _⟩ => if P.underlying t matches some (.pointer _) then some false else none
  | x, y => if eqs.contains t then (match tyOf P tyDepth t with
    | some τ => (match x.as τ, y.as τ with
      | some a, some b => some (Ty.eqb τ a b)
      | _, _ => none)
    | none => none) else none

/-- How an operation on two values turns out. -/
def binAV (P : Program) (eqs : List TypeId) (op : BinOp) (t : TypeId) (x y : AV) : Res AV :=
  match x, y with
  | ⟨.ty (.int k), a⟩, ⟨.ty (.int k'), b⟩ => intOp op k a k' b
  | ⟨.ty .str, a⟩, ⟨.ty .str, b⟩ => strOp op a b
  | x, y => match op with
    | .eql => (eqOp P eqs t x y).map fun b => (true, .bool b)
    | .neq => (eqOp P eqs t x y).map fun b => (true, .bool !b)
    | _ => none

def unAV (op : UnOp) (x : AV) : Option AV :=
  match op, x with
  | .neg, ⟨.ty (.int k), a⟩ => some (.int k (k.wrap (0 - a)))
  | .xor, ⟨.ty (.int k), a⟩ => some (.int k (icompl k a))
  | .not, ⟨.ty .bool, b⟩ => some (.bool !b)
  | _, _ => none

def toByte (n : Int) : UInt8 := UInt8.ofNat n.toNat

def isBytes (P : Program) (e : TypeId) : Bool :=
  match P.underlying e with
  | some (.int .u8) => true
  | _ => false

def bytesAV : AV → Option (List Int)
  | ⟨.ty (.sl (.int .u8)), xs⟩ => some xs
  | ⟨.osl _ (.int .u8), xs⟩ => some xs
  | _ => none

def convAV (P : Program) (src dst : TypeId) (x : AV) : Option AV :=
  match P.underlying src, P.underlying dst, x with
  | some _, some (.int k), ⟨.ty (.int _), a⟩ => some (.int k (k.wrap a))
  | some _, some .string, ⟨.ty .str, a⟩ => some (.str a)
  | some (.slice e), some .string, x => if isBytes P e then (bytesAV x).map fun xs => .str (xs.map toByte) else none
  | _, _, _ => none

def imin (a b : Int) : Int := bif decide (b < a) then b else a
def imax (a b : Int) : Int := bif decide (b > a) then b else a

/-- The least, or the greatest, of numbers of one kind. -/
def foldInt (f : Int → Int → Int) (k : IntKind) : Int → List AV → Option Int
  | a, [] => some a
  | a, ⟨.ty (.int k'), b⟩ :: l => if k = k' then foldInt f k (f a b) l else none
  | _, _ => none

def extreme (f : Int → Int → Int) (l : List AV) : Option AV :=
  match l with
  | ⟨.ty (.int k), a⟩ :: l => (foldInt f k a l).map (.int k)
  | _ => none

def inRange (i : Int) (n : Nat) : Bool := decide (0 ≤ i) && decide (i < n)

/-- Slices, tagged or not. -/
def asSl : AV → Option ((e : Ty) × List e.den)
  | ⟨.ty (.sl e), x⟩ => some ⟨e, x⟩
  | ⟨.osl _ e, x⟩ => some ⟨e, x⟩
  | _ => none

def natOf : AV → Option Int
  | ⟨.ty (.int _), n⟩ => some n
  | _ => none

def sliceAV (x : AV) (lo hi : Option AV) : Res AV :=
  match x with
  | ⟨.ty .str, s⟩ => match lo.elim (some (0 : Int)) natOf, hi.elim (some ((List.length s : Nat) : Int)) natOf with
    | some l, some h => some (decide (0 ≤ h) && decide (h ≤ (List.length s : Nat)) && decide (0 ≤ l) && decide (l ≤ h), .str ((List.take h.toNat s).drop l.toNat))
    | _, _ => none
  | ⟨.osl id e, s⟩ => match hi with
    | none => match lo.elim (some (0 : Int)) natOf with
      | some l => some (inRange l (List.length s + 1), ⟨.osl id e, List.drop l.toNat s⟩)
      | none => none
    | some hi => match lo.elim (some (0 : Int)) natOf, natOf hi with
      | some l, some h => some (decide (0 ≤ h) && decide (h ≤ (List.length s : Nat)) && decide (0 ≤ l) && decide (l ≤ h), ⟨.ty (.sl e), (List.take h.toNat s).drop l.toNat⟩)
      | _, _ => none
  | ⟨.ty (.sl e), s⟩ => match lo.elim (some (0 : Int)) natOf, hi.elim (some ((List.length s : Nat) : Int)) natOf with
    | some l, some h => some (decide (0 ≤ h) && decide (h ≤ (List.length s : Nat)) && decide (0 ≤ l) && decide (l ≤ h), ⟨.ty (.sl e), (List.take h.toNat s).drop l.toNat⟩)
    | _, _ => none
  | _ => none

/-- Cells as a value. -/
def mkV (g : Bool) (cs : List Value) : Value := if g then .agg cs.toArray else cs.headD undef

def nplus (a : Nat) (n : Int) : Nat := a + n.toNat
def nspan (l h : Int) : Nat := h.toNat - l.toNat
def zeros {α : Type} (c : Int) (z : α) : List α := List.replicate c.toNat z
/-- Some of a row replaced. -/
def mend {α : Type} (xs : List α) (off : Nat) (ys : List α) (n : Nat) : List α := xs.take off ++ ys.take n ++ xs.drop (off + min ys.length n)
def wroom (xs ys : List (Nat × Nat)) (b : Nat) : Bool := Nat.ble ((xs.length + ys.length) * b) 140737488355328
def wapp (xs ys : List (Nat × Nat)) : List (Nat × Nat) := xs ++ ys
/-- The window at a place. -/
def wAt (l : List (Nat × Nat)) (n : Int) : Nat × Nat := List.getD l n.toNat (0, 0)
/-- What a window shows. -/
def shown {α : Type} (xs : List α) (y : Nat × Nat) : List α := (xs.drop y.1).take y.2

/-- What windows show. -/
def rowsOf {α : Type} (xs : List α) (ws : List (Nat × Nat)) : List (List α) := ws.map (shown xs)

/-- A part of a row that may be written. -/
def sliceWin (id : Nat) (e : Ty) (y : Nat × Nat) (lo hi : Option AV) : Res AV :=
  match lo.elim (some (0 : Int)) natOf, hi.elim (some ((y.2 : Nat) : Int)) natOf with
  | some l, some h => some (decide (0 ≤ h) && decide (h ≤ (y.2 : Nat)) && decide (0 ≤ l) && decide (l ≤ h), ⟨.win id e, (nplus y.1 l, nspan l h)⟩)
  | _, _ => none

/-- What lies under a key. -/
def mget (m : List (Int × Int)) (k : Int) : Option Int :=
  match m with
  | [] => none
  | (j, v) :: m => bif k == j then some v else mget m k

/-- Under a key, something else. -/
def mput (m : List (Int × Int)) (k v : Int) : List (Int × Int) :=
  match m with
  | [] => [(k, v)]
  | (j, u) :: m => bif k == j then (k, v) :: m else (j, u) :: mput m k v

/-- Is it a map from numbers to numbers? -/
def mapTy (P : Program) (t : TypeId) : Bool :=
  match P.underlying t with
  | some (.map kt et) => (match P.underlying kt with
    | some (.int .i64) => true
    | _ => false) && (match (P.info? et).bind (·.zero) with
    | some (.int .i64 z) => z == 0
    | _ => false)
  | _ => false

def mval (l : List (Int × Int)) (k : Int) : Int := (mget l k).getD 0
def mhas (l : List (Int × Int)) (k : Int) : Bool := (mget l k).isSome

def lookAV (l : List (Int × Int)) (k : Int) (ok : Bool) : AV :=
  if ok then ⟨.tup (.pair (.ty (.int .i64)) (.pair (.ty .bool) (.ty .unit))), (mval l k, mhas l k, ())⟩ else .int .i64 (mval l k)

/-- Is there room for so many? -/
def roomOk (c : Int) (bytes : Nat) : Bool := decide (0 ≤ c) && decide (c * bytes ≤ 281474976710656) && decide (c ≤ 9223372036854775807)

/-! ### Operations -/

/-- What an operation of a region whose order is drawn may do (by its tag, and the box): 'rd': it may not read there; 'wr': it may write there. -/
structure Lim where
  rd : Nat → Nat → Bool
  wr : Nat → Nat → Bool

def wrOk (f : Nat → Bool) (a : AV) : Bool :=
  match a with
  | ⟨.box id _, _⟩ => f id
  | ⟨.boxi id _ _ _, _⟩ => f id
  | ⟨.elp id _ _, _⟩ => f id
  | _ => true

/-- The memory that a program's frame sees: boxes, but those that are made in this very region ('no'). -/
def heapAt (s : St) (no : Nat → Bool) (id : Nat) : Option AV := if no id then none else look id s.heap

def loadAV (P : Program) (s : St) (no : Nat → Bool) (t : TypeId) (a : AV) : Option AV :=
  match a with
  | ⟨.box id off, _⟩ => match heapAt s no id with
    | some c => c.sub off (P.cellsOf t) (isStruct P t)
    | none => none
  | ⟨.ref τ off, x⟩ => AV.sub ⟨.ty τ, x⟩ off (P.cellsOf t) (isStruct P t)
  | ⟨.boxi id off n e, i⟩ => match heapAt s no id with
    | some c => match c.sub off (n * e.size) true with
      | some ⟨.ty (.arr m e'), xs⟩ => (match Ty.dec e e' with
        | isTrue h => if m = n ∧ P.cellsOf t = e.size ∧ isStruct P t = e.agg then some ⟨.ty e, (h ▸ xs : List e.den).getD i e.dflt⟩ else none
        | isFalse _ => none)
      | _ => none
    | none => none
  | ⟨.elp id e o, i⟩ => match heapAt s no id with
    | some ⟨.rowc e', xs⟩ => (match Ty.dec e' e with
      | isTrue h => if 0 < e.size then Ty.sub e ((h ▸ xs : List e.den).getD i e.dflt) o (P.cellsOf t) (isStruct P t) else none
      | isFalse _ => none)
    | _ => none
  | ⟨.wref id e, y⟩ => if P.cellsOf t = 1 ∧ isStruct P t = false then some ⟨.win id e, y⟩ else none
  | _ => none

def AV.solid (a : AV) : Bool :=
  match a.sh with
  | .top | .tup _ | .tyc .. => false
  | _ => true

/-- A new variable's content: of a struct that begins with a nil pointer its type is kept. -/
def newOf (t : TypeId) (z : AV) : Option Value → AV
  | some (.agg ⟨[.pointer none, .slice none 0 0]⟩) => ⟨.tyc t (.pair (.lit (.pointer none)) (.pair (.lit (.slice none 0 0)) (.ty .unit))), ((), (), ())⟩
  | _ => z

def storeAV (P : Program) (s : St) (t : TypeId) (a v : AV) : Option Eff :=
  match a with
  | ⟨.box id off, _⟩ => match look id s.heap with
    | some c => if v.sh.size = P.cellsOf t ∧ v.solid then (c.upd off v).map (.put id) else none
    | none => none
  | ⟨.boxi id off n e, i⟩ => match look id s.heap with
    | some c => match c.sub off (n * e.size) true with
      | some ⟨.ty (.arr m e'), xs⟩ => (match Ty.dec e e', v.as e with
        | isTrue h, some u => if m = n ∧ P.cellsOf t = e.size then (c.upd off ⟨.ty (.arr m e), (h ▸ xs : List e.den).set i u⟩).map (.put id) else none
        | _, _ => none)
      | _ => none
    | none => none
  | ⟨.elp id e o, i⟩ => match look id s.heap with
    | some ⟨.rowc e', xs⟩ => (match Ty.dec e' e with
      | isTrue h => if v.sh.size = P.cellsOf t ∧ v.solid ∧ 0 < e.size then ((Ty.upd e ((h ▸ xs : List e.den).getD i e.dflt) o v).bind fun z => z.as e).map fun u => .put id ⟨.rowc e, (h ▸ xs : List e.den).set i u⟩ else none
      | isFalse _ => none)
    | _ => none
  | _ => none

def fieldOf (P : Program) (t : TypeId) (f : Nat) : Option Field :=
  match P.underlying t with
  | some (.struct fs) => fs[f]?
  | _ => none

def partsAV (place : Nat → Option (Nat × Nat)) (s : St) : AV → List (Nat × Operand) → Option AV
  | z, [] => some z
  | z, (i, x) :: l => match place i with
    | some (o, size) => if (opnd s x).solid && (opnd s x).sh.size == size then (match z.upd o (opnd s x) with
      | some z => partsAV place s z l
      | none => none) else none
    | none => none

def places (P : Program) (fs : List Field) : Option (List (Nat × Nat)) :=
  fs.mapM (fun f => (P.info? f.type).map fun i => (f.offset, i.size))

def partsSl (e : Ty) (s : St) : List e.den → List (Nat × Operand) → Option (List e.den)
  | z, [] => some z
  | z, (i, x) :: l => match (opnd s x).as e with
    | some u => if i < z.length then partsSl e s (z.set i u) l else none
    | none => none

def pack : List AV → AV
  | [] => .unit
  | a :: l => AV.mkPair a (pack l)

def single (a : AV) : Bool := a.sh.agg == false && a.solid

/-- A slice of windows of a row, by its tag: nil is one of any row's. -/
def wslOf (b : Nat) (τ : Ty) (a : AV) : Option (Nat × List (Nat × Nat)) :=
  match a with
  | ⟨.wsl (some tg) b' τ', xs⟩ => if b' = b then (match Ty.dec τ' τ with
    | isTrue _ => some (tg, xs)
    | isFalse _ => none) else none
  | ⟨.osl tg (.sl _), xs⟩ => (match xs with
    | [] => some (tg, [])
    | _ => none)
  | _ => none

/-- What is appended to a slice of windows of a row. -/
def wslArgs (x y : AV) : Option (Nat × ((b : Nat) ×' (τ : Ty) ×' (_ : List (Nat × Nat)) ×' List (Nat × Nat))) :=
  match y with
  | ⟨.wsl _ b τ, ys⟩ => (match wslOf b τ x with
    | some (tg, xs) => some (tg, ⟨b, τ, xs, ys⟩)
    | none => none)
  | _ => none

/-- The only part of a slice, if it is a window. -/
def winPart (s : St) (l : List (Nat × Operand)) : Option (Nat × Ty × (Nat × Nat)) :=
  match l with
  | [(0, x)] => (match opnd s x with
    | ⟨.win b e, y⟩ => some (b, e, y)
    | _ => none)
  | _ => none

/-- An operation but a call: its condition and effect. 'id': the tag, or box, that it may make. -/
def opE (P : Program) (eqs : List TypeId) (s : St) (no : Lim) (id : Nat) (o : Oper) : Res Eff :=
  match o.op with
  | .move x | .assign x => match x with
    | .const v => if nilSl v then (match P.underlying o.type with
      | some (.slice e) => (match tyOf P tyDepth e with
        | some τ => yes (.val ⟨.osl id τ, []⟩)
        | none => yes (.val (.lit v)))
      | _ => none) else yes (.val (constAV v))
    | x => yes (.val (opnd s x))
  | .pick c a b => match opnd s c with
    | ⟨.ty .bool, c⟩ => yes (.val (bif c then opnd s a else opnd s b))
    | _ => none
  | .alloc t => match zeroOf P t id with
    | some z => if (look id s.heap).isNone && z.sh.bare then yes (.new id (newOf t z ((P.info? t).bind (·.zero))) (.box id 0)) else none
    | none => none
  | .box _ x => if (look id s.heap).isNone && (opnd s x).solid then yes (.new id (opnd s x) (.box id 0)) else none
  | .build t parts => match zeroOf P t id, P.underlying t with
    | some z, some (.struct fs) => (match places P fs.toList with
      | some pl => (partsAV (pl.toArray[·]?) s z parts.toList).map fun v => (true, .val v)
      | none => none)
    | some z, some (.array _ e) => if (P.info? e).isSome then (partsAV (fun i => some (i * P.cellsOf e, P.cellsOf e)) s z parts.toList).map fun v => (true, .val v) else none
    | _, _ => none
  | .buildSlice t len parts => match P.underlying t with
    | some (.slice e) => (match winPart s parts.toList with
      | some p => (match P.info? e with
        | some i => if len = 1 ∧ i.size = 1 ∧ i.zero.isSome = true then yes (.val ⟨.wsl none p.1 p.2.1, [p.2.2]⟩) else none
        | none => none)
      | none => (match tyOf P tyDepth e, zeroTy P e with
        | some τ, some z => (match z.as τ with
          | some z => if len * P.cellsOf e ≤ 16777216 ∧ 0 < P.cellsOf e ∧ P.cellsOf e = τ.size then (partsSl τ s (List.replicate len z) parts.toList).map fun v => (true, .val ⟨.osl id τ, v⟩) else none
          | none => none)
        | _, _ => none))
    | _ => none
  | .load t a => if !known P t then none else (loadAV P s (no.rd id) t (opnd s a)).map fun v => (true, .val v)
  | .store t a v => if !known P t then none else (if wrOk (no.wr id) (opnd s a) then (storeAV P s t (opnd s a) (opnd s v)).map fun e => (true, e) else none)
  | .nilCheck x => match opnd s x with
    | ⟨.box id off, v⟩ => yes (.val ⟨.box id off, v⟩)
    | ⟨.ref t off, v⟩ => yes (.val ⟨.ref t off, v⟩)
    | ⟨.boxi a b c d, v⟩ => yes (.val ⟨.boxi a b c d, v⟩)
    | ⟨.elp a b c, v⟩ => yes (.val ⟨.elp a b c, v⟩)
    | ⟨.wref a b, v⟩ => yes (.val ⟨.wref a b, v⟩)
    | _ => none
  | .binOp op t x y _ => (binAV P eqs op t (opnd s x) (opnd s y)).map fun r => (r.1, .val r.2)
  | .unOp op _ x => (unAV op (opnd s x)).map fun v => (true, .val v)
  | .convert a b x => (convAV P a b (opnd s x)).map fun v => (true, .val v)
  | .makeFunc fn first caps => match fn with
    | .func f => if first.isEmpty && (caps.toList.all fun c => single (opnd s c)) then yes (.val ⟨.fn f (pack (caps.toList.map (opnd s))).sh, (pack (caps.toList.map (opnd s))).v⟩) else none
    | _ => none
  | .fieldAddr t x f => match fieldOf P t f with
    | some fl => if P.cellsOf fl.type = 0 ∨ !known P fl.type then none else (match opnd s x with
      | ⟨.box id off, _⟩ => yes (.val (.box id (off + fl.offset)))
      | ⟨.ref τ off, v⟩ => yes (.val ⟨.ref τ (off + fl.offset), v⟩)
      | ⟨.elp id e o, v⟩ => yes (.val ⟨.elp id e (o + fl.offset), v⟩)
      | _ => none)
    | none => none
  | .field t x f => match fieldOf P t f with
    | some fl => if !(known P fl.type && ((opnd s x).sh.agg && (opnd s x).sh.bare)) then none else ((opnd s x).sub fl.offset (P.cellsOf fl.type) (isStruct P fl.type)).map fun v => (true, .val v)
    | none => none
  | .indexAddr t x i => match P.underlying t, natOf (opnd s i) with
    | some (.slice el), some n => (match asSl (opnd s x) with
      | some ⟨e, xs⟩ => if P.cellsOf el = e.size ∧ 0 < e.size ∧ known P el then some (inRange n (List.length xs), .val ⟨.ref e 0, List.getD xs n.toNat e.dflt⟩) else none
      | none => match opnd s x with
        | ⟨.win id e, y⟩ => if P.cellsOf el = e.size ∧ 0 < e.size ∧ known P el then some (inRange n y.2, .val ⟨.elp id e 0, nplus y.1 n⟩) else none
        | ⟨.wsl _ id e, ys⟩ => if P.cellsOf el = 1 ∧ known P el then some (inRange n (List.length (α := Nat × Nat) ys), .val ⟨.wref id e, wAt ys n⟩) else none
        | _ => none)
    | some (.array k el), some n => (match opnd s x, i with
      | ⟨.box id off, _⟩, .const _ => if P.cellsOf el = 0 ∨ !known P el then none else some (inRange n k, .val (.box id (off + n.toNat * P.cellsOf el)))
      | ⟨.box id off, _⟩, _ => (match tyOf P tyDepth el with
        | some e => if P.cellsOf el = e.size ∧ known P el then some (inRange n k, .val ⟨.boxi id off k e, n.toNat⟩) else none
        | none => none)
      | _, _ => none)
    | _, _ => none
  | .index t x i => match P.underlying t, natOf (opnd s i), opnd s x with
    | some .string, some n, ⟨.ty .str, xs⟩ => some (inRange n (List.length xs), .val (.int .u8 (List.getD xs n.toNat 0).toNat))
    | some (.array k el), some n, ⟨.ty (.arr m e), xs⟩ => if k = m ∧ P.cellsOf el = e.size ∧ isStruct P el = e.agg ∧ known P el then some (inRange n k, .val ⟨.ty e, List.getD xs n.toNat e.dflt⟩) else none
    | _, _, _ => none
  | .slice t x lo hi mx => if mx.isSome then none else (match P.underlying t with
    | some .string => (match opnd s x with
      | ⟨.ty .str, v⟩ => (sliceAV ⟨.ty .str, v⟩ (lo.map (opnd s)) (hi.map (opnd s))).map fun r => (r.1, .val r.2)
      | _ => none)
    | some (.slice el) => (match asSl (opnd s x) with
      | some ⟨e, _⟩ => if P.cellsOf el = e.size ∧ known P el then (sliceAV (opnd s x) (lo.map (opnd s)) (hi.map (opnd s))).map fun r => (r.1, .val r.2) else none
      | none => match opnd s x with
        | ⟨.win id e, y⟩ => if P.cellsOf el = e.size ∧ known P el then (sliceWin id e y (lo.map (opnd s)) (hi.map (opnd s))).map fun r => (r.1, .val r.2) else none
        | _ => none)
    | _ => none)
  | .makeSlice t len cap => match P.underlying t, len, natOf (opnd s cap) with
    | some (.slice e), .const (.int .i64 0), some c => (match tyOf P tyDepth e, zeroTy P e, P.info? e with
      | some τ, some _, some i => if P.cellsOf e = τ.size then some (roomOk c i.bytes, .val ⟨.osl id τ, []⟩) else none
      | _, _, _ => none)
    | _, _, _ => none
  | .lookup t x i ok => match opnd s x, opnd s i with
    | ⟨.mp b, _⟩, ⟨.ty (.int .i64), k⟩ => (match heapAt s (no.rd id) b with
      | some ⟨.mapc, l⟩ => if mapTy P t then yes (.val (lookAV l k ok)) else none
      | _ => none)
    | _, _ => none
  | .mapUpdate t x i v => match opnd s x, opnd s i, opnd s v with
    | ⟨.mp b, _⟩, ⟨.ty (.int .i64), k⟩, ⟨.ty (.int .i64), v⟩ => (match look b s.heap with
      | some ⟨.mapc, l⟩ => if mapTy P t then yes (.put b ⟨.mapc, mput l k v⟩) else none
      | _ => none)
    | _, _, _ => none
  | .extract x n => match opnd s x with
    | ⟨.tup a, v⟩ => (nth n ⟨a, v⟩).map fun v => (true, .val v)
    | _ => none
  | .call c => match c.callee with
    | .builtin .len => match c.argTypes.toList, c.args.toList with
      | [t], [x] => (match P.underlying t, opnd s x with
        | some .string, ⟨.ty .str, v⟩ => yes (.val (.int .i64 (List.length v : Nat)))
        | some (.slice _), ⟨.ty (.sl _), v⟩ => yes (.val (.int .i64 (List.length v : Nat)))
        | some (.slice _), ⟨.osl _ _, v⟩ => yes (.val (.int .i64 (List.length v : Nat)))
        | some (.slice _), ⟨.win _ _, v⟩ => yes (.val (.int .i64 (v.2 : Nat)))
        | some (.slice _), ⟨.wsl _ _ _, v⟩ => yes (.val (.int .i64 (List.length (α := Nat × Nat) v : Nat)))
        | some (.array n _), _ => yes (.val (.int .i64 (n : Nat)))
        | _, _ => none)
      | _, _ => none
    | .builtin .min => (extreme imin (c.args.toList.map (opnd s))).map fun v => (true, .val v)
    | .builtin .max => (extreme imax (c.args.toList.map (opnd s))).map fun v => (true, .val v)
    | .builtin .append => match c.argTypes.toList, c.args.toList with
      | [t, t'], [x, y] => if t = t' then (match P.underlying t with
        | some (.slice e) => (match wslArgs (opnd s x) (opnd s y) with
          | some p => (match P.info? e with
            | some i => if i.size = 1 ∧ 0 < i.bytes ∧ (i.zero.map fun z => z.cells.size) = some 1 then
                some (wroom p.2.2.2.1 p.2.2.2.2 i.bytes, .app p.1 ⟨.wsl (some p.1) p.2.1 p.2.2.1, wapp p.2.2.2.1 p.2.2.2.2⟩) else none
            | none => none)
          | none => (match opnd s x, P.info? e with
            | ⟨.osl id τ, xs⟩, some i => (match (opnd s y).as (.sl τ) with
              | some ys => if i.size = τ.size ∧ 0 < τ.size ∧ 0 < i.bytes ∧ (i.zero.map fun z => z.cells.size) = some τ.size then
                  some (Nat.ble ((List.length xs + List.length ys) * i.bytes) 140737488355328, .app id ⟨.osl id τ, xs ++ ys⟩) else none
              | none => none)
            | _, _ => none))
        | _ => none) else (match P.underlying t, P.underlying t' with
        | some (.slice e), some .string => (match opnd s x, opnd s y, P.info? e with
          | ⟨.osl id (.int .u8), xs⟩, ⟨.ty .str, b⟩, some i => if i.size = 1 ∧ 0 < i.bytes ∧ (i.zero.map fun z => z.cells.size) = some 1 then
              some (Nat.ble ((List.length (α := Int) xs + List.length (α := UInt8) b) * i.bytes) 140737488355328, .app id ⟨.osl id (.int .u8), (xs : List Int) ++ List.map (fun b : UInt8 => (b.toNat : Int)) b⟩) else none
          | _, _, _ => none)
        | _, _ => none)
      | _, _ => none
    | _ => none
  | _ => none
 where
  nth : Nat → AV → Option AV
    | 0, a => (a.split).map (·.1)
    | n + 1, a => (a.split).bind fun p => nth n p.2

end Go.Av
