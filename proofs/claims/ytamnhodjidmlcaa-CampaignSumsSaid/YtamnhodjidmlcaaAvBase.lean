/- The abstract values of the framework Av: shapes, what they denote, and how parts of them are read and replaced. -/
import Derived.Orders
import Derived.ArgAppend
import Derived.Laws.OwnMore
import Derived.Laws.StructEq
import Derived.ChangeKeysEq
import Derived.Laws.BytesArg
import Derived.Laws.Pointers
import Derived.Laws.Tables
import Derived.Great.BuildSlice
import Derived.KernelRfl
namespace Go.Av
open Go

/-- Plain data, as Go's types have them: no tags, no addresses. -/
inductive Ty where
  | unit
  | pair (a b : Ty)
  | arr (n : Nat) (e : Ty)
  | int (k : IntKind)
  | bool
  | str
  | func
  | sl (e : Ty)

def Ty.dec : (a b : Ty) → Decidable (a = b)
  | .unit, .unit => isTrue rfl
  | .bool, .bool => isTrue rfl
  | .str, .str => isTrue rfl
  | .func, .func => isTrue rfl
  | .int k, .int k' => if h : k = k' then isTrue (by rw [h]) else isFalse (by intro e; injection e; contradiction)
  | .sl a, .sl b => match Ty.dec a b with
    | isTrue h => isTrue (by rw [h])
    | isFalse h => isFalse (by intro e; injection e; contradiction)
  | .arr n a, .arr m b => if hn : n = m then (match Ty.dec a b with
    | isTrue h => isTrue (by rw [h, hn])
    | isFalse h => isFalse (by intro e; injection e; contradiction)) else isFalse (by intro e; injection e; contradiction)
  | .pair a b, .pair c d => match Ty.dec a c with
    | isTrue h => (match Ty.dec b d with
      | isTrue h' => isTrue (by rw [h, h'])
      | isFalse h' => isFalse (by intro e; injection e; contradiction))
    | isFalse h => isFalse (by intro e; injection e; contradiction)
  | .func, .unit | .func, .bool | .func, .str | .func, .int _ | .func, .sl _ | .func, .arr _ _ | .func, .pair _ _ => isFalse (by intro e; cases e)
  | .unit, .func | .bool, .func | .str, .func | .int _, .func | .sl _, .func | .arr _ _, .func | .pair _ _, .func => isFalse (by intro e; cases e)
  | .unit, .bool | .unit, .str | .unit, .int _ | .unit, .sl _ | .unit, .arr _ _ | .unit, .pair _ _ => isFalse (by intro e; cases e)
  | .bool, .unit | .bool, .str | .bool, .int _ | .bool, .sl _ | .bool, .arr _ _ | .bool, .pair _ _ => isFalse (by intro e; cases e)
  | .str, .unit | .str, .bool | .str, .int _ | .str, .sl _ | .str, .arr _ _ | .str, .pair _ _ => isFalse (by intro e; cases e)
  | .int _, .unit | .int _, .bool | .int _, .str | .int _, .sl _ | .int _, .arr _ _ | .int _, .pair _ _ => isFalse (by intro e; cases e)
  | .sl _, .unit | .sl _, .bool | .sl _, .str | .sl _, .int _ | .sl _, .arr _ _ | .sl _, .pair _ _ => isFalse (by intro e; cases e)
  | .arr _ _, .unit | .arr _ _, .bool | .arr _ _, .str | .arr _ _, .int _ | .arr _ _, .sl _ | .arr _ _, .pair _ _ => isFalse (by intro e; cases e)
  | .pair _ _, .unit | .pair _ _, .bool | .pair _ _, .str | .pair _ _, .int _ | .pair _ _, .sl _ | .pair _ _, .arr _ _ => isFalse (by intro e; cases e)

instance : DecidableEq Ty := Ty.dec

@[reducible] def Ty.den : Ty → Type
  | .unit => Unit
  | .pair a b => a.den × b.den
  | .arr _ e => List e.den
  | .int _ => Int
  | .bool => Bool
  | .str => List UInt8
  | .func => Option FuncId
  | .sl e => List e.den

def Ty.size : Ty → Nat
  | .unit => 0
  | .pair a b => a.size + b.size
  | .arr n e => n * e.size
  | _ => 1

def Ty.dflt : (t : Ty) → t.den
  | .unit => ()
  | .pair a b => (a.dflt, b.dflt)
  | .arr n e => List.replicate n e.dflt
  | .int _ => (0 : Int)
  | .bool => false
  | .str => []
  | .func => none
  | .sl _ => []

def Ty.agg : Ty → Bool
  | .unit | .pair .. | .arr .. => true
  | _ => false

/-- Shapes of what is in a frame (and of boxes: a row of elements that may be written, a map of numbers; 'win': a slice of such a row; 'elp': an element's address; 'mp': a map): plain data, or tagged: a slice that may be appended to, an address of a box, an address of fixed memory, a function, a value that is known, a tuple. -/
inductive Sh where
  | ty (t : Ty)
  | pair (a b : Sh)
  | osl (id : Nat) (e : Ty)
  | box (id off : Nat)
  | boxi (id off n : Nat) (e : Ty)
  | win (id : Nat) (e : Ty)
  | elp (id : Nat) (e : Ty) (o : Nat)
  | mp (id : Nat)
  | nbox (id : Nat)
  | tsl (T id : Nat)
  | wsl (tag : Option Nat) (id : Nat) (e : Ty)
  | wref (id : Nat) (e : Ty)
  | rowc (e : Ty)
  | mapc
  | tyc (T : Nat) (s : Sh)
  | ref (t : Ty) (off : Nat)
  | fn (f : Nat) (caps : Sh)
  | lit (v : Value)
  | tup (a : Sh)
  | top

@[reducible] def Sh.den : Sh → Type
  | .ty t => t.den
  | .pair a b => a.den × b.den
  | .osl _ e => List e.den
  | .box .. => Unit
  | .boxi .. => Nat
  | .win .. => Nat × Nat
  | .elp .. => Nat
  | .mp _ => Unit
  | .nbox _ => Unit
  | .tsl _ _ => List UInt8
  | .wsl .. => List (Nat × Nat)
  | .wref .. => Nat × Nat
  | .rowc e => List e.den
  | .mapc => List (Int × Int)
  | .tyc _ s => s.den
  | .ref t _ => t.den
  | .fn _ caps => caps.den
  | .lit _ => Unit
  | .tup a => a.den
  | .top => Unit

structure AV where
  sh : Sh
  v : sh.den

def Sh.size : Sh → Nat
  | .ty t => t.size
  | .pair a b => a.size + b.size
  | .tyc _ s => s.size
  | _ => 1

def Sh.agg : Sh → Bool
  | .ty t => t.agg
  | .pair .. => true
  | .tyc _ s => s.agg
  | _ => false

namespace AV
@[reducible] def top : AV := ⟨.top, ()⟩
@[reducible] def int (k : IntKind) (n : Int) : AV := ⟨.ty (.int k), n⟩
@[reducible] def bool (b : Bool) : AV := ⟨.ty .bool, b⟩
@[reducible] def str (s : List UInt8) : AV := ⟨.ty .str, s⟩
@[reducible] def unit : AV := ⟨.ty .unit, ()⟩
@[reducible] def lit (v : Value) : AV := ⟨.lit v, ()⟩
@[reducible] def box (id off : Nat) : AV := ⟨.box id off, ()⟩
/-- What a slot has that was passed over. -/
@[reducible] def undef : AV := ⟨.tup (.ty .unit), ()⟩
def mkPair : AV → AV → AV
  | ⟨.ty s, x⟩, ⟨.ty t, y⟩ => ⟨.ty (.pair s t), (x, y)⟩
  | ⟨s, x⟩, ⟨t, y⟩ => ⟨.pair s t, (x, y)⟩
def split : AV → Option (AV × AV)
  | ⟨.ty (.pair a b), x⟩ => some (⟨.ty a, x.1⟩, ⟨.ty b, x.2⟩)
  | ⟨.pair a b, x⟩ => some (⟨a, x.1⟩, ⟨b, x.2⟩)
  | _ => none
end AV

def nilFn : Value → Bool
  | .nilFunc => true
  | _ => false

/-- A function that has captured nothing. -/
def fnVal : Option FuncId → Value
  | none => .nilFunc
  | some f => .func (.func f) #[] #[]

def Sh.noCaps : Sh → Bool
  | .ty .unit => true
  | _ => false

def nilSl : Value → Bool
  | .slice none 0 0 => true
  | _ => false

/-- As plain data of a type. -/
def Sh.as : (s : Sh) → s.den → (t : Ty) → Option t.den
  | .ty s, x, t => match Ty.dec s t with
    | isTrue h => some (h ▸ x)
    | isFalse _ => none
  | .pair a b, x, .pair c d => match Sh.as a x.1 c, Sh.as b x.2 d with
    | some y, some z => some (y, z)
    | _, _ => none
  | .osl _ e, x, .sl e' => match Ty.dec e e' with
    | isTrue h => some (h ▸ x)
    | isFalse _ => none
  | .lit v, _, .sl _ => if nilSl v then some [] else none
  | .fn f caps, _, .func => if caps.noCaps then some (some f) else none
  | .lit v, _, .func => if nilFn v then some none else none
  | _, _, _ => none

def AV.as (a : AV) (t : Ty) : Option t.den := a.sh.as a.v t

/-- A struct of one field that is a struct, or the end of one: the field is meant. -/
def Ty.lone (a b : Ty) : Bool :=
  match b with
  | .unit => a.agg
  | _ => false
def Sh.lone (a b : Sh) : Bool :=
  match b with
  | .ty .unit => a.agg
  | _ => false

/-- The part of n cells from a cell on. -/
def Ty.sub : (t : Ty) → t.den → (off n : Nat) → (agg : Bool) → Option AV
  | .pair a b, x, off, n, g =>
    if off == 0 && (n == a.size + b.size && (g && !Ty.lone a b)) then some ⟨.ty (.pair a b), x⟩
    else if off < a.size then (if off + n ≤ a.size then Ty.sub a x.1 off n g else none) else Ty.sub b x.2 (off - a.size) n g
  | .arr k e, x, off, n, g =>
    if off == 0 && (n == k * e.size && g) then some ⟨.ty (.arr k e), x⟩
    else if off / e.size < k ∧ 0 < e.size ∧ off % e.size + n ≤ e.size then Ty.sub e (x.getD (off / e.size) e.dflt) (off % e.size) n g else none
  | .unit, _, off, n, g => if off == 0 && (n == 0 && g) then some ⟨.ty .unit, ()⟩ else none
  | .int k, x, off, n, g => if off == 0 && (n == 1 && !g) then some ⟨.ty (.int k), x⟩ else none
  | .bool, x, off, n, g => if off == 0 && (n == 1 && !g) then some ⟨.ty .bool, x⟩ else none
  | .str, x, off, n, g => if off == 0 && (n == 1 && !g) then some ⟨.ty .str, x⟩ else none
  | .func, x, off, n, g => if off == 0 && (n == 1 && !g) then some ⟨.ty .func, x⟩ else none
  | .sl e, x, off, n, g => if off == 0 && (n == 1 && !g) then some ⟨.ty (.sl e), x⟩ else none

def Sh.sub : (s : Sh) → s.den → (off n : Nat) → (agg : Bool) → Option AV
  | .ty t, x, off, n, g => Ty.sub t x off n g
  | .pair a b, x, off, n, g =>
    if off == 0 && (n == a.size + b.size && (g && !Sh.lone a b)) then some ⟨.pair a b, x⟩
    else if off < a.size then (if off + n ≤ a.size then Sh.sub a x.1 off n g else none) else Sh.sub b x.2 (off - a.size) n g
  | .tup _, _, _, _, _ => none
  | .top, _, _, _, _ => none
  | .rowc _, _, _, _, _ => none
  | .mapc, _, _, _, _ => none
  | .tyc _ s, x, off, n, g => Sh.sub s x off n g
  | s, x, off, n, g => if off == 0 && (n == 1 && !g) then some ⟨s, x⟩ else none

def AV.sub (a : AV) (off n : Nat) (agg : Bool) : Option AV := a.sh.sub a.v off n agg

/-- The same with the part from a cell on replaced by another one of the same size. -/
def Ty.upd : (t : Ty) → t.den → (off : Nat) → AV → Option AV
  | .pair a b, x, off, y =>
    if off == 0 && (y.sh.size == a.size + b.size && (y.sh.agg && !Ty.lone a b)) then some y
    else if off < a.size then (match Ty.upd a x.1 off y with
      | some z => some (AV.mkPair z ⟨.ty b, x.2⟩)
      | none => none)
    else match Ty.upd b x.2 (off - a.size) y with
      | some z => some (AV.mkPair ⟨.ty a, x.1⟩ z)
      | none => none
  | .arr k e, x, off, y =>
    if off == 0 && (y.sh.size == k * e.size && y.sh.agg) then some y
    else if off / e.size < k ∧ 0 < e.size then
      match Ty.upd e (x.getD (off / e.size) e.dflt) (off % e.size) y with
      | some z => (match z.as e with
        | some u => some ⟨.ty (.arr k e), x.set (off / e.size) u⟩
        | none => none)
      | none => none
    else none
  | t, _, off, y => if off == 0 && (y.sh.size == t.size && (y.sh.agg == t.agg)) then some y else none

def Sh.upd : (s : Sh) → s.den → (off : Nat) → AV → Option AV
  | .ty t, x, off, y => Ty.upd t x off y
  | .pair a b, x, off, y =>
    if off == 0 && (y.sh.size == a.size + b.size && (y.sh.agg && !Sh.lone a b)) then some y
    else if off < a.size then (match Sh.upd a x.1 off y with
      | some z => some (AV.mkPair z ⟨b, x.2⟩)
      | none => none)
    else match Sh.upd b x.2 (off - a.size) y with
      | some z => some (AV.mkPair ⟨a, x.1⟩ z)
      | none => none
  | .tup _, _, _, _ => none
  | .top, _, _, _ => none
  | .rowc _, _, _, _ => none
  | .mapc, _, _, _ => none
  | .tyc T s, x, off, y => match Sh.upd s x off y with
    | some z => some ⟨.tyc T z.sh, z.v⟩
    | none => none
  | s, _, off, y => if off == 0 && (y.sh.size == s.size && (y.sh.agg == s.agg)) then some y else none

/-- No content of a type that is known. -/
def Sh.bare : Sh → Bool
  | .tyc .. => false
  | _ => true

def AV.upd (a : AV) (off : Nat) (y : AV) : Option AV := a.sh.upd a.v off y

/-- Two plain data that Go compares. -/
def Ty.eqb : (t : Ty) → t.den → t.den → Bool
  | .unit, _, _ => true
  | .pair a b, x, y => Ty.eqb a x.1 y.1 && Ty.eqb b x.2 y.2
  | .arr _ e, x, y => go (Ty.eqb e) x y
  | .int _, x, y => (x : Int) == y
  | .bool, x, y => (x : Bool) == y
  | .str, x, y => (x : List UInt8) == y
  | .func, _, _ => true
  | .sl _, _, _ => true
 where
  go {α : Type} (f : α → α → Bool) : List α → List α → Bool
    | a :: x, b :: y => f a b && go f x y
    | [], [] => true
    | _, _ => false

def tagMap (ρ : Nat → Option Nat) : Option Nat → Option Nat
  | none => none
  | some t => ρ t

/-- Tags renamed: slices' by ρ (none: the tag is struck), boxes' by σ (none: the address is struck). -/
def Sh.ren (ρ σ : Nat → Option Nat) : (s : Sh) → s.den → AV
  | .ty t, x => ⟨.ty t, x⟩
  | .pair a b, x => AV.mkPair (Sh.ren ρ σ a x.1) (Sh.ren ρ σ b x.2)
  | .osl id e, x => match ρ id with
    | some j => ⟨.osl j e, x⟩
    | none => ⟨.ty (.sl e), x⟩
  | .box id off, _ => match σ id with
    | some j => ⟨.box j off, ()⟩
    | none => ⟨.top, ()⟩
  | .boxi id off n e, x => match σ id with
    | some j => ⟨.boxi j off n e, x⟩
    | none => ⟨.top, ()⟩
  | .win id e, x => match σ id with
    | some j => ⟨.win j e, x⟩
    | none => ⟨.top, ()⟩
  | .elp id e o, x => match σ id with
    | some j => ⟨.elp j e o, x⟩
    | none => ⟨.top, ()⟩
  | .mp id, _ => match σ id with
    | some j => ⟨.mp j, ()⟩
    | none => ⟨.top, ()⟩
  | .tsl T id, x => match ρ id with
    | some j => ⟨.tsl T j, x⟩
    | none => ⟨.top, ()⟩
  | .nbox id, _ => match σ id with
    | some j => ⟨.nbox j, ()⟩
    | none => ⟨.top, ()⟩
  | .wsl tag id e, x => match σ id with
    | some j => ⟨.wsl (tagMap ρ tag) j e, x⟩
    | none => ⟨.top, ()⟩
  | .wref id e, x => match σ id with
    | some j => ⟨.wref j e, x⟩
    | none => ⟨.top, ()⟩
  | .rowc e, x => ⟨.rowc e, x⟩
  | .mapc, x => ⟨.mapc, x⟩
  | .tyc T s, x => ⟨.tyc T (Sh.ren ρ σ s x).sh, (Sh.ren ρ σ s x).v⟩
  | .ref t off, x => ⟨.ref t off, x⟩
  | .fn f caps, x => ⟨.fn f (Sh.ren ρ σ caps x).sh, (Sh.ren ρ σ caps x).v⟩
  | .lit v, _ => ⟨.lit v, ()⟩
  | .tup a, x => ⟨.tup a, x⟩
  | .top, _ => ⟨.top, ()⟩

/-- The same of a tuple's parts. -/
def Sh.renT (ρ σ : Nat → Option Nat) : (s : Sh) → s.den → AV
  | .pair a b, x => ⟨.pair (Sh.ren ρ σ a x.1).sh (Sh.renT ρ σ b x.2).sh, ((Sh.ren ρ σ a x.1).v, (Sh.renT ρ σ b x.2).v)⟩
  | s, x => ⟨s, x⟩

def AV.ren (ρ σ : Nat → Option Nat) (a : AV) : AV :=
  match a with
  | ⟨.tup s, x⟩ => ⟨.tup (Sh.renT ρ σ s x).sh, (Sh.renT ρ σ s x).v⟩
  | ⟨s, x⟩ => Sh.ren ρ σ s x

end Go.Av
