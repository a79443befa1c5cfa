/- Texts of the proof, one behind the other. -/
import Derived.Orders
import Derived.ArgAppend
import Derived.Laws.OwnMore
import Derived.Laws.StructEq
import Derived.ChangeKeysEq
import Derived.Laws.BytesArg
import Derived.Laws.Pointers
import Derived.Laws.Tables
import Derived.Great.BuildSlice
import Derived.KernelRfl
import Derived.Deep.AppendSrc
section
namespace Go.Av
open Go
inductive Ty where
 |unit
 |pair (a b:Ty)
 |arr (n:Nat) (e:Ty)
 |int (k:IntKind)
 |bool
 |str
 |func
 |sl (e:Ty)
def Ty.dec:(a b:Ty)→Decidable (a=b)
 | .unit,.unit=>isTrue rfl
 | .bool,.bool=>isTrue rfl
 | .str,.str=>isTrue rfl
 | .func,.func=>isTrue rfl
 | .int k,.int k'=>if h:k=k' then isTrue (by rw[h]) else isFalse (by intro e;injection e;contradiction)
 | .sl a,.sl b=>match Ty.dec a b with
  |isTrue h=>isTrue (by rw[h])
  |isFalse h=>isFalse (by intro e;injection e;contradiction)
 | .arr n a,.arr m b=>if hn:n=m then(match Ty.dec a b with
  |isTrue h=>isTrue (by rw[h,hn])
  |isFalse h=>isFalse (by intro e;injection e;contradiction)) else isFalse (by intro e;injection e;contradiction)
 | .pair a b,.pair c d=>match Ty.dec a c with
  |isTrue h=>(match Ty.dec b d with
   |isTrue h'=>isTrue (by rw[h,h'])
   |isFalse h'=>isFalse (by intro e;injection e;contradiction))
  |isFalse h=>isFalse (by intro e;injection e;contradiction)
 | .func,.unit | .func,.bool | .func,.str | .func,.int _ | .func,.sl _ | .func,.arr _ _ | .func,.pair _ _=>isFalse (by intro e;cases e)
 | .unit,.func | .bool,.func | .str,.func | .int _,.func | .sl _,.func | .arr _ _,.func | .pair _ _,.func=>isFalse (by intro e;cases e)
 | .unit,.bool | .unit,.str | .unit,.int _ | .unit,.sl _ | .unit,.arr _ _ | .unit,.pair _ _=>isFalse (by intro e;cases e)
 | .bool,.unit | .bool,.str | .bool,.int _ | .bool,.sl _ | .bool,.arr _ _ | .bool,.pair _ _=>isFalse (by intro e;cases e)
 | .str,.unit | .str,.bool | .str,.int _ | .str,.sl _ | .str,.arr _ _ | .str,.pair _ _=>isFalse (by intro e;cases e)
 | .int _,.unit | .int _,.bool | .int _,.str | .int _,.sl _ | .int _,.arr _ _ | .int _,.pair _ _=>isFalse (by intro e;cases e)
 | .sl _,.unit | .sl _,.bool | .sl _,.str | .sl _,.int _ | .sl _,.arr _ _ | .sl _,.pair _ _=>isFalse (by intro e;cases e)
 | .arr _ _,.unit | .arr _ _,.bool | .arr _ _,.str | .arr _ _,.int _ | .arr _ _,.sl _ | .arr _ _,.pair _ _=>isFalse (by intro e;cases e)
 | .pair _ _,.unit | .pair _ _,.bool | .pair _ _,.str | .pair _ _,.int _ | .pair _ _,.sl _ | .pair _ _,.arr _ _=>isFalse (by intro e;cases e)
instance:DecidableEq Ty:=Ty.dec
@[reducible] def Ty.den:Ty→Type
 | .unit=>Unit
 | .pair a b=>a.den×b.den
 | .arr _ e=>List e.den
 | .int _=>Int
 | .bool=>Bool
 | .str=>List UInt8
 | .func=>Option FuncId
 | .sl e=>List e.den
def Ty.size:Ty→Nat
 | .unit=>0
 | .pair a b=>a.size+b.size
 | .arr n e=>n*e.size
 |_=>1
def Ty.dflt:(t:Ty)→t.den
 | .unit=>()
 | .pair a b=>(a.dflt,b.dflt)
 | .arr n e=>List.replicate n e.dflt
 | .int _=>(0:Int)
 | .bool=>false
 | .str=>[]
 | .func=>none
 | .sl _=>[]
def Ty.agg:Ty→Bool
 | .unit | .pair .. | .arr ..=>true
 |_=>false
inductive Sh where
 |ty (t:Ty)
 |pair (a b:Sh)
 |osl (id:Nat) (e:Ty)
 |box (id off:Nat)
 |boxi (id off n:Nat) (e:Ty)
 |win (id:Nat) (e:Ty)
 |elp (id:Nat) (e:Ty) (o:Nat)
 |mp (id:Nat)
 |nbox (id:Nat)
 |tsl (T id:Nat)
 |wsl (tag:Option Nat) (id:Nat) (e:Ty)
 |wref (id:Nat) (e:Ty)
 |rowc (e:Ty)
 |mapc
 |tyc (T:Nat) (s:Sh)
 |ref (t:Ty) (off:Nat)
 |fn (f:Nat) (caps:Sh)
 |lit (v:Value)
 |tup (a:Sh)
 |top
@[reducible] def Sh.den:Sh→Type
 | .ty t=>t.den
 | .pair a b=>a.den×b.den
 | .osl _ e=>List e.den
 | .box ..=>Unit
 | .boxi ..=>Nat
 | .win ..=>Nat×Nat
 | .elp ..=>Nat
 | .mp _=>Unit
 | .nbox _=>Unit
 | .tsl _ _=>List UInt8
 | .wsl ..=>List (Nat×Nat)
 | .wref ..=>Nat×Nat
 | .rowc e=>List e.den
 | .mapc=>List (Int×Int)
 | .tyc _ s=>s.den
 | .ref t _=>t.den
 | .fn _ caps=>caps.den
 | .lit _=>Unit
 | .tup a=>a.den
 | .top=>Unit
structure AV where
 sh:Sh
 v:sh.den
def Sh.size:Sh→Nat
 | .ty t=>t.size
 | .pair a b=>a.size+b.size
 | .tyc _ s=>s.size
 |_=>1
def Sh.agg:Sh→Bool
 | .ty t=>t.agg
 | .pair ..=>true
 | .tyc _ s=>s.agg
 |_=>false
namespace AV
@[reducible] def top:AV:=⟨.top,()⟩
@[reducible] def int (k:IntKind) (n:Int):AV:=⟨.ty (.int k),n⟩
@[reducible] def bool (b:Bool):AV:=⟨.ty .bool,b⟩
@[reducible] def str (s:List UInt8):AV:=⟨.ty .str,s⟩
@[reducible] def unit:AV:=⟨.ty .unit,()⟩
@[reducible] def lit (v:Value):AV:=⟨.lit v,()⟩
@[reducible] def box (id off:Nat):AV:=⟨.box id off,()⟩
@[reducible] def undef:AV:=⟨.tup (.ty .unit),()⟩
def mkPair:AV→AV→AV
 |⟨.ty s,x⟩,⟨.ty t,y⟩=>⟨.ty (.pair s t),(x,y)⟩
 |⟨s,x⟩,⟨t,y⟩=>⟨.pair s t,(x,y)⟩
def split:AV→Option (AV×AV)
 |⟨.ty (.pair a b),x⟩=>some (⟨.ty a,x.1⟩,⟨.ty b,x.2⟩)
 |⟨.pair a b,x⟩=>some (⟨a,x.1⟩,⟨b,x.2⟩)
 |_=>none
end AV
def nilFn:Value→Bool
 | .nilFunc=>true
 |_=>false
def fnVal:Option FuncId→Value
 |none=>.nilFunc
 |some f=>.func (.func f) #[] #[]
def Sh.noCaps:Sh→Bool
 | .ty .unit=>true
 |_=>false
def nilSl:Value→Bool
 | .slice none 0 0=>true
 |_=>false
def Sh.as:(s:Sh)→s.den→(t:Ty)→Option t.den
 | .ty s,x,t=>match Ty.dec s t with
  |isTrue h=>some (h▸x)
  |isFalse _=>none
 | .pair a b,x,.pair c d=>match Sh.as a x.1 c,Sh.as b x.2 d with
  |some y,some z=>some (y,z)
  |_,_=>none
 | .osl _ e,x,.sl e'=>match Ty.dec e e' with
  |isTrue h=>some (h▸x)
  |isFalse _=>none
 | .lit v,_,.sl _=>if nilSl v then some [] else none
 | .fn f caps,_,.func=>if caps.noCaps then some (some f) else none
 | .lit v,_,.func=>if nilFn v then some none else none
 |_,_,_=>none
def AV.as (a:AV) (t:Ty):Option t.den:=a.sh.as a.v t
def Ty.lone (a b:Ty):Bool :=
 match b with
 | .unit=>a.agg
 |_=>false
def Sh.lone (a b:Sh):Bool :=
 match b with
 | .ty .unit=>a.agg
 |_=>false
def Ty.sub:(t:Ty)→t.den→(off n:Nat)→(agg:Bool)→Option AV
 | .pair a b,x,off,n,g =>
  if off==0&&(n==a.size+b.size&&(g&&!Ty.lone a b)) then some ⟨.ty (.pair a b),x⟩
  else if off<a.size then(if off+n≤a.size then Ty.sub a x.1 off n g else none) else Ty.sub b x.2 (off-a.size) n g
 | .arr k e,x,off,n,g =>
  if off==0&&(n==k*e.size&&g) then some ⟨.ty (.arr k e),x⟩
  else if off / e.size<k∧0<e.size∧off % e.size+n≤e.size then Ty.sub e (x.getD (off / e.size) e.dflt) (off % e.size) n g else none
 | .unit,_,off,n,g=>if off==0&&(n==0&&g) then some ⟨.ty .unit,()⟩ else none
 | .int k,x,off,n,g=>if off==0&&(n==1&&!g) then some ⟨.ty (.int k),x⟩ else none
 | .bool,x,off,n,g=>if off==0&&(n==1&&!g) then some ⟨.ty .bool,x⟩ else none
 | .str,x,off,n,g=>if off==0&&(n==1&&!g) then some ⟨.ty .str,x⟩ else none
 | .func,x,off,n,g=>if off==0&&(n==1&&!g) then some ⟨.ty .func,x⟩ else none
 | .sl e,x,off,n,g=>if off==0&&(n==1&&!g) then some ⟨.ty (.sl e),x⟩ else none
def Sh.sub:(s:Sh)→s.den→(off n:Nat)→(agg:Bool)→Option AV
 | .ty t,x,off,n,g=>Ty.sub t x off n g
 | .pair a b,x,off,n,g =>
  if off==0&&(n==a.size+b.size&&(g&&!Sh.lone a b)) then some ⟨.pair a b,x⟩
  else if off<a.size then(if off+n≤a.size then Sh.sub a x.1 off n g else none) else Sh.sub b x.2 (off-a.size) n g
 | .tup _,_,_,_,_=>none
 | .top,_,_,_,_=>none
 | .rowc _,_,_,_,_=>none
 | .mapc,_,_,_,_=>none
 | .tyc _ s,x,off,n,g=>Sh.sub s x off n g
 |s,x,off,n,g=>if off==0&&(n==1&&!g) then some ⟨s,x⟩ else none
def AV.sub (a:AV) (off n:Nat) (agg:Bool):Option AV:=a.sh.sub a.v off n agg
def Ty.upd:(t:Ty)→t.den→(off:Nat)→AV→Option AV
 | .pair a b,x,off,y =>
  if off==0&&(y.sh.size==a.size+b.size&&(y.sh.agg&&!Ty.lone a b)) then some y
  else if off<a.size then(match Ty.upd a x.1 off y with
   |some z=>some (AV.mkPair z ⟨.ty b,x.2⟩)
   |none=>none)
  else match Ty.upd b x.2 (off-a.size) y with
   |some z=>some (AV.mkPair ⟨.ty a,x.1⟩ z)
   |none=>none
 | .arr k e,x,off,y =>
  if off==0&&(y.sh.size==k*e.size&&y.sh.agg) then some y
  else if off / e.size<k∧0<e.size then
   match Ty.upd e (x.getD (off / e.size) e.dflt) (off % e.size) y with
   |some z=>(match z.as e with
    |some u=>some ⟨.ty (.arr k e),x.set (off / e.size) u⟩
    |none=>none)
   |none=>none
  else none
 |t,_,off,y=>if off==0&&(y.sh.size==t.size&&(y.sh.agg==t.agg)) then some y else none
def Sh.upd:(s:Sh)→s.den→(off:Nat)→AV→Option AV
 | .ty t,x,off,y=>Ty.upd t x off y
 | .pair a b,x,off,y =>
  if off==0&&(y.sh.size==a.size+b.size&&(y.sh.agg&&!Sh.lone a b)) then some y
  else if off<a.size then(match Sh.upd a x.1 off y with
   |some z=>some (AV.mkPair z ⟨b,x.2⟩)
   |none=>none)
  else match Sh.upd b x.2 (off-a.size) y with
   |some z=>some (AV.mkPair ⟨a,x.1⟩ z)
   |none=>none
 | .tup _,_,_,_=>none
 | .top,_,_,_=>none
 | .rowc _,_,_,_=>none
 | .mapc,_,_,_=>none
 | .tyc T s,x,off,y=>match Sh.upd s x off y with
  |some z=>some ⟨.tyc T z.sh,z.v⟩
  |none=>none
 |s,_,off,y=>if off==0&&(y.sh.size==s.size&&(y.sh.agg==s.agg)) then some y else none
def Sh.bare:Sh→Bool
 | .tyc ..=>false
 |_=>true
def AV.upd (a:AV) (off:Nat) (y:AV):Option AV:=a.sh.upd a.v off y
def Ty.eqb:(t:Ty)→t.den→t.den→Bool
 | .unit,_,_=>true
 | .pair a b,x,y=>Ty.eqb a x.1 y.1&&Ty.eqb b x.2 y.2
 | .arr _ e,x,y=>go (Ty.eqb e) x y
 | .int _,x,y=>(x:Int)==y
 | .bool,x,y=>(x:Bool)==y
 | .str,x,y=>(x:List UInt8)==y
 | .func,_,_=>true
 | .sl _,_,_=>true
where
 go {α:Type} (f:α→α→Bool):List α→List α→Bool
  |a::x,b::y=>f a b&&go f x y
  |[],[]=>true
  |_,_=>false
def tagMap (ρ:Nat→Option Nat):Option Nat→Option Nat
 |none=>none
 |some t=>ρ t
def Sh.ren (ρ σ:Nat→Option Nat):(s:Sh)→s.den→AV
 | .ty t,x=>⟨.ty t,x⟩
 | .pair a b,x=>AV.mkPair (Sh.ren ρ σ a x.1) (Sh.ren ρ σ b x.2)
 | .osl id e,x=>match ρ id with
  |some j=>⟨.osl j e,x⟩
  |none=>⟨.ty (.sl e),x⟩
 | .box id off,_=>match σ id with
  |some j=>⟨.box j off,()⟩
  |none=>⟨.top,()⟩
 | .boxi id off n e,x=>match σ id with
  |some j=>⟨.boxi j off n e,x⟩
  |none=>⟨.top,()⟩
 | .win id e,x=>match σ id with
  |some j=>⟨.win j e,x⟩
  |none=>⟨.top,()⟩
 | .elp id e o,x=>match σ id with
  |some j=>⟨.elp j e o,x⟩
  |none=>⟨.top,()⟩
 | .mp id,_=>match σ id with
  |some j=>⟨.mp j,()⟩
  |none=>⟨.top,()⟩
 | .tsl T id,x=>match ρ id with
  |some j=>⟨.tsl T j,x⟩
  |none=>⟨.top,()⟩
 | .nbox id,_=>match σ id with
  |some j=>⟨.nbox j,()⟩
  |none=>⟨.top,()⟩
 | .wsl tag id e,x=>match σ id with
  |some j=>⟨.wsl (tagMap ρ tag) j e,x⟩
  |none=>⟨.top,()⟩
 | .wref id e,x=>match σ id with
  |some j=>⟨.wref j e,x⟩
  |none=>⟨.top,()⟩
 | .rowc e,x=>⟨.rowc e,x⟩
 | .mapc,x=>⟨.mapc,x⟩
 | .tyc T s,x=>⟨.tyc T (Sh.ren ρ σ s x).sh,(Sh.ren ρ σ s x).v⟩
 | .ref t off,x=>⟨.ref t off,x⟩
 | .fn f caps,x=>⟨.fn f (Sh.ren ρ σ caps x).sh,(Sh.ren ρ σ caps x).v⟩
 | .lit v,_=>⟨.lit v,()⟩
 | .tup a,x=>⟨.tup a,x⟩
 | .top,_=>⟨.top,()⟩
def Sh.renT (ρ σ:Nat→Option Nat):(s:Sh)→s.den→AV
 | .pair a b,x=>⟨.pair (Sh.ren ρ σ a x.1).sh (Sh.renT ρ σ b x.2).sh,((Sh.ren ρ σ a x.1).v,(Sh.renT ρ σ b x.2).v)⟩
 |s,x=>⟨s,x⟩
def AV.ren (ρ σ:Nat→Option Nat) (a:AV):AV :=
 match a with
 |⟨.tup s,x⟩=>⟨.tup (Sh.renT ρ σ s x).sh,(Sh.renT ρ σ s x).v⟩
 |⟨s,x⟩=>Sh.ren ρ σ s x
end Go.Av
end
section
namespace Go.Av
open Go
inductive Kind where
 |old
 |far (used:Nat)
 |box (id:Nat)
 |row (id used:Nat)
def Kind.fixed:Kind→Bool
 | .old | .far _=>true
 |_=>false
abbrev Kinds:=Nat→Kind
def StabK (k:Kind) (o:Nat):Prop :=
 match k with
 | .old=>True
 | .far u=>o<u
 | .box _=>False
 | .row _ u=>o<u
def Stab (K:Kinds) (b o:Nat):Prop:=StabK (K b) o
def At (w:World) (K:Kinds) (a:Addr) (cs:List Value):Prop :=
 ∀j v,cs[j]?=some v→a.spot=none∧w.cell? ⟨a.block,a.off+j,none⟩=some v∧Stab K a.block (a.off+j)
def RL {α:Type} (R:α→List Value→Prop):List α→List Value→Prop
 |[],cs=>cs=[]
 |x::xs,cs=>∃c1 c2,cs=c1++c2∧R x c1∧RL R xs c2
def RT (w:World) (K:Kinds):(t:Ty)→t.den→List Value→Prop
 | .unit,_,cs=>cs=[]
 | .pair a b,x,cs=>∃c1 c2,cs=c1++c2∧RT w K a x.1 c1∧RT w K b x.2 c2
 | .arr n e,x,cs=>List.length x=n∧RL (RT w K e) x cs
 | .int k,n,cs=>cs=[.int k n]
 | .bool,b,cs=>cs=[.bool b]
 | .str,s,cs=>cs=[.string ⟨⟨s⟩⟩]
 | .func,f,cs=>cs=[fnVal f]
 | .sl e,xs,cs=>∃A len cap,cs=[.slice A len cap]∧len=List.length xs∧len≤cap∧(A=none→cap=0) ∧
   ∀a,A=some a→∃cc,RL (RT w K e) xs cc∧At w K a cc
def Own (w:World) (K:Kinds) (id sz:Nat) (A:Option Addr) (len cap:Nat):Prop :=
 A=none∨len=cap∨∃a,A=some a∧a.spot=none∧K a.block=.row id (a.off+len*sz) ∧
  ∃arr T,w.heap[a.block]?=some (.cells arr T (0,0))∧a.off+cap*sz≤arr.size
def RowLen (w:World) (b n:Nat):Prop:=∃cs T,w.heap[b]?=some (.cells cs T (0,0))∧n≤cs.size
def RWin (w:World) (K:Kinds) (id:Nat) (e:Ty) (x:Nat×Nat) (cs:List Value):Prop :=
 ∃b j cap,cs=[.slice (some ⟨b,j,none⟩) x.2 cap]∧K b=.box id∧b<w.heap.size∧x.2≤cap∧(x.2≠0→j=x.1*e.size)∧RowLen w b ((x.1+x.2)*e.size)
def RWsl (w:World) (K:Kinds) (id:Nat) (e:Ty) (xs:List (Nat×Nat)) (cs:List Value):Prop :=
 ∃A len cap,cs=[.slice A len cap]∧len=List.length xs∧len≤cap∧(A=none→cap=0) ∧
  ∀a,A=some a→∃cc,RL (RWin w K id e) xs cc∧At w K a cc
def RS (w:World) (K:Kinds):(s:Sh)→s.den→List Value→Prop
 | .ty t,x,cs=>RT w K t x cs
 | .pair a b,x,cs=>∃c1 c2,cs=c1++c2∧RS w K a x.1 c1∧RS w K b x.2 c2
 | .osl id e,xs,cs=>RT w K (.sl e) xs cs∧∀A len cap,cs=[.slice A len cap]→Own w K id e.size A len cap
 | .box id off,_,cs=>∃b,cs=[.pointer (some ⟨b,off,none⟩)]∧K b=.box id∧b<w.heap.size
 | .boxi id off n e,i,cs=>∃b,cs=[.pointer (some ⟨b,off+i*e.size,none⟩)]∧K b=.box id∧b<w.heap.size∧i<n
 | .win id e,x,cs=>∃b j cap,cs=[.slice (some ⟨b,j,none⟩) x.2 cap]∧K b=.box id∧b<w.heap.size∧x.2≤cap∧(x.2≠0→j=x.1*e.size)∧RowLen w b ((x.1+x.2)*e.size)
 | .elp id e o,x,cs=>∃b,cs=[.pointer (some ⟨b,x*e.size+o,none⟩)]∧K b=.box id∧b<w.heap.size∧RowLen w b ((x+1)*e.size)
 | .mp id,_,cs=>∃b,cs=[.map (some b)]∧K b=.box id∧b<w.heap.size
 | .tsl T id,xs,cs=>∃A n cap,cs=[.slice A n cap]∧((A=none∧n=0∧cap=0∧xs=[])∨∃g cur,A=some ⟨g,0,none⟩∧K g=.row id 0∧w.heap[g]?=some (.cells cur T (0,0)) ∧
   n=List.length xs∧n≤cap∧cap≤maxLen∧cur.size=cap∧cur.toList.take n=List.map (fun x:UInt8=>Value.int .u8 x.toNat) xs)
 | .nbox id,_,cs=>∃p,cs=[.pointer p]∧(p=none∨∃b,p=some ⟨b,0,none⟩∧K b=.box id∧b<w.heap.size)
 | .wsl tag id e,xs,cs=>RWsl w K id e xs cs∧∀t A len cap,tag=some t→cs=[.slice A len cap]→Own w K t 1 A len cap
 | .wref id e,x,cs=>∃a cc,cs=[.pointer (some a)]∧RWin w K id e x cc∧At w K a cc
 | .rowc _,_,_=>False
 | .mapc,_,_=>False
 | .tyc _ s,x,cs=>RS w K s x cs
 | .ref t off,x,cs=>∃a cc,cs=[.pointer (some (a.add off))]∧RT w K t x cc∧At w K a cc
 | .fn f caps,x,cs=>∃cc,cs=[.func (.func f) #[] cc.toArray]∧RS w K caps x cc
 | .lit v,_,cs=>cs=[v]∧v.oneCell'=true
 | .tup _,_,_=>False
 | .top,_,cs=>∃c,cs=[c]∧c.oneCell'=true
def R1 (w:World) (K:Kinds) (s:Sh) (x:s.den) (v:Value):Prop :=
 RS w K s x v.cells.toList∧(s.agg=true→∃c,v=.agg c)∧(s.agg=false→∀c,v≠.agg c)
def RTup (w:World) (K:Kinds):(s:Sh)→s.den→List Value→Prop
 | .pair a b,x,v::vs=>R1 w K a x.1 v∧RTup w K b x.2 vs
 | .ty .unit,_,vs=>vs=[]
 |_,_,_=>False
def RV (w:World) (K:Kinds) (a:AV) (v:Value):Prop :=
 match a with
 |⟨.tup s,x⟩=>∃vs,v=.tuple vs∧RTup w K s x vs.toList
 |⟨.top,_⟩=>True
 |⟨s,x⟩=>R1 w K s x v
structure Ext (w:World) (K:Kinds) (w':World) (K':Kinds):Prop where
 os:w'.os=w.os
 tape:w'.tape=w.tape
 output:w'.output=w.output
 size:w.heap.size≤w'.heap.size
 fix:∀b,b<w.heap.size→(K b).fixed=true→K' b=K b∧w'.heap[b]?=w.heap[b]?
 stab:∀b o,b<w.heap.size→Stab K b o→Stab K' b o∧w'.cell? ⟨b,o,none⟩=w.cell? ⟨b,o,none⟩
 box:∀b id,b<w.heap.size→K b=.box id→K' b=.box id
 bsz:∀b id n,b<w.heap.size→K b=.box id→RowLen w b n→RowLen w' b n
theorem Ext.refl (w:World) (K:Kinds):Ext w K w K :=
 ⟨rfl,rfl,rfl,Nat.le_refl _,fun _ _ _=>⟨rfl,rfl⟩,fun _ _ _ h=>⟨h,rfl⟩,fun _ _ _ h=>h,fun _ _ _ _ _ h=>h⟩
theorem Ext.trans {w w' w'':World} {K K' K'':Kinds} (h:Ext w K w' K') (g:Ext w' K' w'' K''):Ext w K w'' K'' where
 os:=g.os.trans h.os
 tape:=g.tape.trans h.tape
 output:=g.output.trans h.output
 size:=Nat.le_trans h.size g.size
 fix:=fun b hb hk=>by
  obtain⟨h1,h2⟩:=h.fix b hb hk
  obtain⟨g1,g2⟩:=g.fix b (Nat.lt_of_lt_of_le hb h.size) (by rw[h1];exact hk)
  exact⟨g1.trans h1,g2.trans h2⟩
 stab:=fun b o hb hk=>by
  obtain⟨h1,h2⟩:=h.stab b o hb hk
  obtain⟨g1,g2⟩:=g.stab b o (Nat.lt_of_lt_of_le hb h.size) h1
  exact⟨g1,g2.trans h2⟩
 box:=fun b id hb hk=>g.box b id (Nat.lt_of_lt_of_le hb h.size) (h.box b id hb hk)
 bsz:=fun b id n hb hk hn=>g.bsz b id n (Nat.lt_of_lt_of_le hb h.size) (h.box b id hb hk) (h.bsz b id n hb hk hn)
theorem cell_lt {w:World} {a:Addr} {v:Value} (h:w.cell? a=some v):a.block<w.heap.size:=by
 unfold World.cell? at h
 rcases Nat.lt_or_ge a.block w.heap.size with h' |h'
 ·exact h'
 ·rw[Array.getElem?_eq_none h'] at h;simp at h
def Keep (w:World) (K:Kinds) (w':World) (K':Kinds):Prop :=
 ∀b o,b<w.heap.size→Stab K b o→Stab K' b o∧w'.cell? ⟨b,o,none⟩=w.cell? ⟨b,o,none⟩
theorem At.ext {w w':World} {K K':Kinds} (g:Keep w K w' K') {a:Addr} {cs:List Value} (h:At w K a cs):At w' K' a cs:=by
 intro j v hj
 obtain⟨h1,h2,h3⟩:=h j v hj
 obtain⟨g1,g2⟩:=g a.block (a.off+j) (cell_lt (a:=⟨a.block,a.off+j,none⟩) h2) h3
 exact⟨h1,g2.trans h2,g1⟩
theorem RL.imp {α:Type} {R R':α→List Value→Prop} (h:∀x cs,R x cs→R' x cs):∀(xs:List α) (cs:List Value),RL R xs cs→RL R' xs cs
 |[],_,hh=>hh
 |_::xs,_,⟨c1,c2,e,h1,h2⟩=>⟨c1,c2,e,h _ _ h1,RL.imp h xs c2 h2⟩
theorem RT.ext {w w':World} {K K':Kinds} (g:Keep w K w' K'):∀(t:Ty) (x:t.den) (cs:List Value),RT w K t x cs→RT w' K' t x cs
 | .unit,_,_,h=>h
 | .pair a b,x,_,⟨c1,c2,e,h1,h2⟩=>⟨c1,c2,e,RT.ext g a x.1 c1 h1,RT.ext g b x.2 c2 h2⟩
 | .arr _ e,x,cs,⟨h1,h2⟩=>⟨h1,RL.imp (RT.ext g e) x cs h2⟩
 | .int _,_,_,h=>h
 | .bool,_,_,h=>h
 | .str,_,_,h=>h
 | .func,_,_,h=>h
 | .sl e,xs,_,⟨A,len,cap,h1,h2,h3,h4,h5⟩ =>
  ⟨A,len,cap,h1,h2,h3,h4,fun a ha=>let⟨cc,k1,k2⟩:=h5 a ha;⟨cc,RL.imp (RT.ext g e) xs cc k1,k2.ext g⟩⟩
theorem RL.length {α:Type} {R:α→List Value→Prop} {n:Nat} (h:∀x cs,R x cs→cs.length=n):∀(xs:List α) (cs:List Value),RL R xs cs→cs.length=xs.length*n
 |[],_,hh=>by cases hh;simp
 |_::xs,_,⟨c1,c2,e,h1,h2⟩=>by
  subst e
  simp only[List.length_append,List.length_cons,h _ _ h1,RL.length h xs c2 h2,Nat.succ_mul]
  omega
theorem RT.length {w:World} {K:Kinds}:∀(t:Ty) (x:t.den) (cs:List Value),RT w K t x cs→cs.length=t.size
 | .unit,_,_,h=>by rw[show _=[] from h];rfl
 | .pair a b,x,_,⟨c1,c2,e,h1,h2⟩=>by subst e;simp[Ty.size,RT.length a x.1 c1 h1,RT.length b x.2 c2 h2]
 | .arr n e,x,cs,⟨h1,h2⟩=>by rw[RL.length (RT.length e) x cs h2,h1];rfl
 | .int _,_,_,h=>by rw[show _=_ from h];rfl
 | .bool,_,_,h=>by rw[show _=_ from h];rfl
 | .str,_,_,h=>by rw[show _=_ from h];rfl
 | .func,_,_,h=>by rw[show _=_ from h];rfl
 | .sl e,xs,_,⟨A,len,cap,h1,_⟩=>by rw[h1];rfl
theorem RS.length {w:World} {K:Kinds}:∀(s:Sh) (x:s.den) (cs:List Value),RS w K s x cs→cs.length=s.size
 | .ty t,x,cs,h=>RT.length t x cs h
 | .pair a b,x,_,⟨c1,c2,e,h1,h2⟩=>by subst e;simp[Sh.size,RS.length a x.1 c1 h1,RS.length b x.2 c2 h2]
 | .osl id e,xs,cs,⟨h1,_⟩=>RT.length (.sl e) xs cs h1
 | .box _ _,_,_,⟨b,h,_⟩=>by rw[h];rfl
 | .boxi _ _ _ _,_,_,⟨b,h,_⟩=>by rw[h];rfl
 | .win _ _,_,_,⟨b,j,cap,h,_⟩=>by rw[h];rfl
 | .elp _ _ _,_,_,⟨b,h,_⟩=>by rw[h];rfl
 | .mp _,_,_,⟨b,h,_⟩=>by rw[h];rfl
 | .nbox _,_,_,⟨p,h,_⟩=>by rw[h];rfl
 | .tsl ..,_,_,⟨A,n,cap,h,_⟩=>by rw[h];rfl
 | .wsl ..,_,_,⟨⟨A,len,cap,h,_⟩,_⟩=>by rw[h];rfl
 | .wref ..,_,_,⟨a,cc,h,_⟩=>by rw[h];rfl
 | .rowc _,_,_,h=>h.elim
 | .mapc,_,_,h=>h.elim
 | .tyc _ s,x,cs,h=>RS.length s x cs h
 | .ref _ _,_,_,⟨a,cc,h,_⟩=>by rw[h];rfl
 | .fn _ _,_,_,⟨cc,h,_⟩=>by rw[h];rfl
 | .lit _,_,_,h=>by rw[h.1];rfl
 | .tup _,_,_,h=>h.elim
 | .top,_,_,⟨c,h,_⟩=>by rw[h];rfl
theorem Ty.size_pos:∀t:Ty,t.agg=false→t.size=1
 | .unit,h=>by cases h
 | .pair ..,h=>by cases h
 | .arr ..,h=>by cases h
 | .int _,_=>rfl
 | .bool,_=>rfl
 | .str,_=>rfl
 | .func,_=>rfl
 | .sl _,_=>rfl
theorem Sh.size_pos:∀s:Sh,s.agg=false→s.size=1
 | .ty t,h=>Ty.size_pos t h
 | .pair ..,h=>by cases h
 | .osl ..,_=>rfl
 | .box ..,_=>rfl
 | .boxi ..,_=>rfl
 | .win ..,_=>rfl
 | .elp ..,_=>rfl
 | .mp _,_=>rfl
 | .nbox _,_=>rfl
 | .tsl ..,_=>rfl
 | .wsl ..,_=>rfl
 | .wref ..,_=>rfl
 | .rowc _,_=>rfl
 | .mapc,_=>rfl
 | .tyc _ s,h=>Sh.size_pos s h
 | .ref ..,_=>rfl
 | .fn ..,_=>rfl
 | .lit _,_=>rfl
 | .tup _,_=>rfl
 | .top,_=>rfl
def Sh.tags:Sh→List Nat
 | .pair a b=>a.tags++b.tags
 | .osl id _=>[id]
 | .tsl _ id=>[id]
 | .wsl (some id) _ _=>[id]
 | .fn _ caps=>caps.tags
 | .tup a=>a.tags
 | .tyc _ a=>a.tags
 |_=>[]
theorem RWin.ext {w w':World} {K K':Kinds} {id j:Nat} {e:Ty} (hs:w.heap.size≤w'.heap.size)
  (hb:∀b,b<w.heap.size→K b=.box id→K' b=.box j∧∀n,RowLen w b n→RowLen w' b n) {x:Nat×Nat} {cs:List Value}:RWin w K id e x cs→RWin w' K' j e x cs
 |⟨b,q,cap,h,hk,hlt,hc,hq,hn⟩=>⟨b,q,cap,h,(hb b hlt hk).1,Nat.lt_of_lt_of_le hlt hs,hc,hq,(hb b hlt hk).2 _ hn⟩
theorem RWsl.ext {w w':World} {K K':Kinds} {id j:Nat} {e:Ty} (g:Keep w K w' K') (hs:w.heap.size≤w'.heap.size)
  (hb:∀b,b<w.heap.size→K b=.box id→K' b=.box j∧∀n,RowLen w b n→RowLen w' b n) {xs:List (Nat×Nat)} {cs:List Value}:RWsl w K id e xs cs→RWsl w' K' j e xs cs
 |⟨A,len,cap,h1,h2,h3,h4,h5⟩=>⟨A,len,cap,h1,h2,h3,h4,fun a ha=>let⟨cc,k1,k2⟩:=h5 a ha;⟨cc,RL.imp (fun _ _=>RWin.ext hs hb) xs cc k1,k2.ext g⟩⟩
theorem RS.ext {w w':World} {K K':Kinds} (g:Ext w K w' K') (hr:∀b id u,b<w.heap.size→K b=.row id u→K' b=.row id u∧w'.heap[b]?=w.heap[b]?) :
  ∀(s:Sh) (x:s.den) (cs:List Value),RS w K s x cs→RS w' K' s x cs
 | .ty t,x,cs,h=>RT.ext g.stab t x cs h
 | .pair a b,x,_,⟨c1,c2,e,h1,h2⟩=>⟨c1,c2,e,RS.ext g hr a x.1 c1 h1,RS.ext g hr b x.2 c2 h2⟩
 | .osl id e,xs,cs,⟨h1,h2⟩=>⟨RT.ext g.stab (.sl e) xs cs h1,fun A len cap hc=>by
   rcases h2 A len cap hc with h |h |⟨a,ha,hs,hk,arr,T,hh,hle⟩
   ·exact .inl h
   ·exact .inr (.inl h)
   ·have hlt:a.block<w.heap.size:=by
     rcases Nat.lt_or_ge a.block w.heap.size with h' |h'
     ·exact h'
     ·rw[Array.getElem?_eq_none h'] at hh;cases hh
    obtain⟨k1,k2⟩:=hr _ _ _ hlt hk
    exact .inr (.inr ⟨a,ha,hs,k1,arr,T,k2.trans hh,hle⟩)⟩
 | .box id off,_,_,⟨b,h,hk,hb⟩=>⟨b,h,g.box b id hb hk,Nat.lt_of_lt_of_le hb g.size⟩
 | .boxi id off n e,i,_,⟨b,h,hk,hb,hi⟩=>⟨b,h,g.box b id hb hk,Nat.lt_of_lt_of_le hb g.size,hi⟩
 | .win id e,x,_,⟨b,j,cap,h,hk,hb,hc,hj,hn⟩=>⟨b,j,cap,h,g.box b id hb hk,Nat.lt_of_lt_of_le hb g.size,hc,hj,g.bsz b id _ hb hk hn⟩
 | .elp id e o,x,_,⟨b,h,hk,hb,hn⟩=>⟨b,h,g.box b id hb hk,Nat.lt_of_lt_of_le hb g.size,g.bsz b id _ hb hk hn⟩
 | .mp id,_,_,⟨b,h,hk,hb⟩=>⟨b,h,g.box b id hb hk,Nat.lt_of_lt_of_le hb g.size⟩
 | .tsl T id,xs,_,⟨A,n,cap,h,hp⟩=>⟨A,n,cap,h,hp.imp (fun h=>h) (fun⟨gb,cur,e,hk,hh,rest⟩=>by
   have hlt:gb<w.heap.size:=(Array.getElem?_eq_some_iff.1 hh).1
   obtain⟨k1,k2⟩:=hr gb id 0 hlt hk
   exact⟨gb,cur,e,k1,k2.trans hh,rest⟩)⟩
 | .nbox id,_,_,⟨p,h,hp⟩=>⟨p,h,hp.imp (fun h=>h) (fun⟨b,e,hk,hb⟩=>⟨b,e,g.box b id hb hk,Nat.lt_of_lt_of_le hb g.size⟩)⟩
 | .wsl tag id e,xs,cs,⟨h1,h2⟩=>⟨RWsl.ext g.stab g.size (fun b hb hk=>⟨g.box b id hb hk,fun n hn=>g.bsz b id n hb hk hn⟩) h1,fun t A len cap ht hc=>by
   rcases h2 t A len cap ht hc with h |h |⟨a,ha,hs,hk,arr,T,hh,hle⟩
   ·exact .inl h
   ·exact .inr (.inl h)
   ·have hlt:a.block<w.heap.size:=by
     rcases Nat.lt_or_ge a.block w.heap.size with h' |h'
     ·exact h'
     ·rw[Array.getElem?_eq_none h'] at hh;cases hh
    obtain⟨k1,k2⟩:=hr _ _ _ hlt hk
    exact .inr (.inr ⟨a,ha,hs,k1,arr,T,k2.trans hh,hle⟩)⟩
 | .wref id e,x,_,⟨a,cc,h,h1,h2⟩=>⟨a,cc,h,RWin.ext g.size (fun b hb hk=>⟨g.box b id hb hk,fun n hn=>g.bsz b id n hb hk hn⟩) h1,h2.ext g.stab⟩
 | .rowc _,_,_,h=>h.elim
 | .mapc,_,_,h=>h.elim
 | .tyc _ s,x,cs,h=>RS.ext g hr s x cs h
 | .ref t _,x,_,⟨a,cc,h,h1,h2⟩=>⟨a,cc,h,RT.ext g.stab t x cc h1,h2.ext g.stab⟩
 | .fn _ caps,x,_,⟨cc,h,h1⟩=>⟨cc,h,RS.ext g hr caps x cc h1⟩
 | .lit _,_,_,h=>h
 | .tup _,_,_,h=>h.elim
 | .top,_,_,h=>h
theorem RL.one {α:Type} {R:α→List Value→Prop} (h:∀x cs,R x cs→∀c∈cs,c.oneCell'=true):∀(xs:List α) (cs:List Value),RL R xs cs→∀c∈cs,c.oneCell'=true
 |[],_,hh,c,hc=>by rw[show _=[] from hh] at hc;cases hc
 |_::xs,_,⟨c1,c2,e,h1,h2⟩,c,hc=>by
  subst e
  rcases List.mem_append.1 hc with hc |hc
  ·exact h _ _ h1 c hc
  ·exact RL.one h xs c2 h2 c hc
theorem RT.one {w:World} {K:Kinds}:∀(t:Ty) (x:t.den) (cs:List Value),RT w K t x cs→∀c∈cs,c.oneCell'=true
 | .unit,_,_,h,c,hc=>by rw[show _=[] from h] at hc;cases hc
 | .pair a b,x,_,⟨c1,c2,e,h1,h2⟩,c,hc=>by
  subst e
  rcases List.mem_append.1 hc with hc |hc
  ·exact RT.one a x.1 c1 h1 c hc
  ·exact RT.one b x.2 c2 h2 c hc
 | .arr n e,x,cs,⟨_,h2⟩,c,hc=>RL.one (RT.one e) x cs h2 c hc
 | .int _,_,_,h,c,hc=>by rw[show _=_ from h] at hc;simp at hc;subst hc;rfl
 | .bool,_,_,h,c,hc=>by rw[show _=_ from h] at hc;simp at hc;subst hc;rfl
 | .str,_,_,h,c,hc=>by rw[show _=_ from h] at hc;simp at hc;subst hc;rfl
 | .func,f,_,h,c,hc=>by rw[show _=_ from h] at hc;simp at hc;subst hc;cases f<;>rfl
 | .sl e,xs,_,⟨A,len,cap,h1,_⟩,c,hc=>by rw[h1] at hc;simp at hc;subst hc;rfl
theorem RS.one {w:World} {K:Kinds}:∀(s:Sh) (x:s.den) (cs:List Value),RS w K s x cs→∀c∈cs,c.oneCell'=true
 | .ty t,x,cs,h,c,hc=>RT.one t x cs h c hc
 | .pair a b,x,_,⟨c1,c2,e,h1,h2⟩,c,hc=>by
  subst e
  rcases List.mem_append.1 hc with hc |hc
  ·exact RS.one a x.1 c1 h1 c hc
  ·exact RS.one b x.2 c2 h2 c hc
 | .osl id e,xs,cs,⟨h1,_⟩,c,hc=>RT.one (.sl e) xs cs h1 c hc
 | .box _ _,_,_,⟨b,h,_⟩,c,hc=>by rw[h] at hc;simp at hc;subst hc;rfl
 | .boxi _ _ _ _,_,_,⟨b,h,_⟩,c,hc=>by rw[h] at hc;simp at hc;subst hc;rfl
 | .win _ _,_,_,⟨b,j,cap,h,_⟩,c,hc=>by rw[h] at hc;simp at hc;subst hc;rfl
 | .elp _ _ _,_,_,⟨b,h,_⟩,c,hc=>by rw[h] at hc;simp at hc;subst hc;rfl
 | .mp _,_,_,⟨b,h,_⟩,c,hc=>by rw[h] at hc;simp at hc;subst hc;rfl
 | .nbox _,_,_,⟨p,h,_⟩,c,hc=>by rw[h] at hc;simp at hc;subst hc;rfl
 | .tsl ..,_,_,⟨A,n,cap,h,_⟩,c,hc=>by rw[h] at hc;simp at hc;subst hc;rfl
 | .wsl ..,_,_,⟨⟨A,len,cap,h,_⟩,_⟩,c,hc=>by rw[h] at hc;simp at hc;subst hc;rfl
 | .wref ..,_,_,⟨a,cc,h,_⟩,c,hc=>by rw[h] at hc;simp at hc;subst hc;rfl
 | .rowc _,_,_,h,_,_=>h.elim
 | .mapc,_,_,h,_,_=>h.elim
 | .tyc _ s,x,cs,h,c,hc=>RS.one s x cs h c hc
 | .ref _ _,_,_,⟨a,cc,h,_⟩,c,hc=>by rw[h] at hc;simp at hc;subst hc;rfl
 | .fn _ _,_,_,⟨cc,h,_⟩,c,hc=>by rw[h] at hc;simp at hc;subst hc;rfl
 | .lit _,_,_,h,c,hc=>by rw[h.1] at hc;simp at hc;subst hc;exact h.2
 | .tup _,_,_,h,_,_=>h.elim
 | .top,_,_,⟨c',h,h'⟩,c,hc=>by rw[h] at hc;simp at hc;subst hc;exact h'
theorem mkPair_RS {w:World} {K:Kinds} {a b:AV} {c1 c2:List Value} (h1:RS w K a.sh a.v c1) (h2:RS w K b.sh b.v c2) :
  RS w K (AV.mkPair a b).sh (AV.mkPair a b).v (c1++c2):=by
 obtain⟨s,x⟩:=a
 obtain⟨t,y⟩:=b
 cases s<;>cases t<;>exact⟨c1,c2,rfl,h1,h2⟩
theorem mkPair_agg (a b:AV):(AV.mkPair a b).sh.agg=true:=by
 obtain⟨s,x⟩:=a
 obtain⟨t,y⟩:=b
 cases s<;>cases t<;>rfl
theorem nilFn_eq {v:Value} (h:nilFn v=true):v=.nilFunc:=by
 unfold nilFn at h
 split at h
 ·rfl
 ·cases h
theorem noCaps_eq {s:Sh} (h:s.noCaps=true):s=.ty .unit:=by
 unfold Sh.noCaps at h
 split at h
 ·rfl
 ·cases h
theorem nilSl_eq {v:Value} (h:nilSl v=true):v=.slice none 0 0:=by
 unfold nilSl at h
 split at h
 ·rfl
 ·cases h
theorem as_RT {w:World} {K:Kinds}:∀(s:Sh) (x:s.den) (t:Ty) (y:t.den) (cs:List Value),s.as x t=some y→RS w K s x cs→RT w K t y cs:=by
 intro s
 induction s with
 |ty s =>
  intro x t y cs h hr
  simp only[Sh.as] at h
  split at h
  ·rename_i e _
   subst e
   cases h
   exact hr
  ·cases h
 |pair a b iha ihb =>
  intro x t y cs h hr
  cases t<;>simp only[Sh.as] at h<;>try cases h
  rename_i c d
  obtain⟨c1,c2,e,h1,h2⟩:=hr
  split at h
  ·rename_i y1 y2 e1 e2
   cases h
   exact⟨c1,c2,e,iha _ _ _ _ e1 h1,ihb _ _ _ _ e2 h2⟩
  ·cases h
 |osl id e =>
  intro x t y cs h hr
  cases t<;>simp only[Sh.as] at h<;>try cases h
  split at h
  ·rename_i e' _
   subst e'
   cases h
   exact hr.1
  ·cases h
 |lit v =>
  intro x t y cs h hr
  obtain⟨hr,_⟩:=hr
  subst hr
  cases t<;>simp only[Sh.as] at h<;>try cases h
  ·split at h
   ·rename_i hn
    cases h
    rw[nilFn_eq hn]
    rfl
   ·cases h
  ·split at h
   ·rename_i hn
    cases h
    rw[nilSl_eq hn]
    exact⟨none,0,0,rfl,rfl,Nat.le_refl _,fun _=>rfl,fun a ha=>by cases ha⟩
   ·cases h
 |box id off=>intro x t y cs h hr;cases t<;>cases h
 |boxi=>intro x t y cs h hr;cases t<;>cases h
 |win=>intro x t y cs h hr;cases t<;>cases h
 |elp=>intro x t y cs h hr;cases t<;>cases h
 |mp=>intro x t y cs h hr;cases t<;>cases h
 |nbox=>intro x t y cs h hr;cases t<;>cases h
 |tsl=>intro x t y cs h hr;cases t<;>cases h
 |wsl=>intro x t y cs h hr;cases t<;>cases h
 |wref=>intro x t y cs h hr;cases t<;>cases h
 |rowc=>intro x t y cs h hr;cases t<;>cases h
 |mapc=>intro x t y cs h hr;cases t<;>cases h
 |tyc=>intro x t y cs h hr;cases t<;>cases h
 |ref=>intro x t y cs h hr;cases t<;>cases h
 |fn f caps =>
  intro x t y cs h hr
  cases t<;>simp only[Sh.as] at h<;>try cases h
  split at h
  ·rename_i hn
   cases h
   cases noCaps_eq hn
   obtain⟨cc,h1,h2⟩:=hr
   rw[h1,show cc=[] from h2]
   rfl
  ·cases h
 |tup=>intro x t y cs h hr;cases t<;>cases h
 |top=>intro x t y cs h hr;cases t<;>cases h
theorem RS.ren {w w':World} {K K':Kinds} {ρ σ:Nat→Option Nat} (g:Keep w K w' K') (hs:w.heap.size≤w'.heap.size)
  (hr:∀b id u j,b<w.heap.size→K b=.row id u→ρ id=some j→K' b=.row j u∧w'.heap[b]?=w.heap[b]?)
  (hb:∀b id j,b<w.heap.size→K b=.box id→σ id=some j→K' b=.box j∧∀n,RowLen w b n→RowLen w' b n) :
  ∀(s:Sh) (x:s.den) (cs:List Value),RS w K s x cs→RS w' K' (s.ren ρ σ x).sh (s.ren ρ σ x).v cs
 | .ty t,x,cs,h=>RT.ext g t x cs h
 | .pair a b,x,_,⟨c1,c2,e,h1,h2⟩=>by
  subst e
  exact mkPair_RS (RS.ren g hs hr hb a x.1 c1 h1) (RS.ren g hs hr hb b x.2 c2 h2)
 | .osl id e,xs,cs,⟨h1,h2⟩=>by
  have h1':=RT.ext g (.sl e) xs cs h1
  simp only[Sh.ren]
  cases hid:ρ id with
  |none=>exact h1'
  |some j =>
   refine⟨h1',fun A len cap hc=>?_⟩
   rcases h2 A len cap hc with h |h |⟨a,ha,hsp,hk,arr,T,hh,hle⟩
   ·exact .inl h
   ·exact .inr (.inl h)
   ·have hlt:a.block<w.heap.size:=by
     rcases Nat.lt_or_ge a.block w.heap.size with h' |h'
     ·exact h'
     ·rw[Array.getElem?_eq_none h'] at hh;cases hh
    obtain⟨k1,k2⟩:=hr _ _ _ _ hlt hk hid
    exact .inr (.inr ⟨a,ha,hsp,k1,arr,T,k2.trans hh,hle⟩)
 | .box id off,_,_,⟨b,h,hk,hlt⟩=>by
  simp only[Sh.ren]
  cases hid:σ id with
  |none=>exact⟨_,h,rfl⟩
  |some j=>exact⟨b,h,(hb b id j hlt hk hid).1,Nat.lt_of_lt_of_le hlt hs⟩
 | .boxi id off n e,i,_,⟨b,h,hk,hlt,hi⟩=>by
  simp only[Sh.ren]
  cases hid:σ id with
  |none=>exact⟨_,h,rfl⟩
  |some j=>exact⟨b,h,(hb b id j hlt hk hid).1,Nat.lt_of_lt_of_le hlt hs,hi⟩
 | .win id e,x,_,⟨b,q,cap,h,hk,hlt,hc,hq,hn⟩=>by
  simp only[Sh.ren]
  cases hid:σ id with
  |none=>exact⟨_,h,rfl⟩
  |some j=>exact⟨b,q,cap,h,(hb b id j hlt hk hid).1,Nat.lt_of_lt_of_le hlt hs,hc,hq,(hb b id j hlt hk hid).2 _ hn⟩
 | .elp id e o,x,_,⟨b,h,hk,hlt,hn⟩=>by
  simp only[Sh.ren]
  cases hid:σ id with
  |none=>exact⟨_,h,rfl⟩
  |some j=>exact⟨b,h,(hb b id j hlt hk hid).1,Nat.lt_of_lt_of_le hlt hs,(hb b id j hlt hk hid).2 _ hn⟩
 | .mp id,_,_,⟨b,h,hk,hlt⟩=>by
  simp only[Sh.ren]
  cases hid:σ id with
  |none=>exact⟨_,h,rfl⟩
  |some j=>exact⟨b,h,(hb b id j hlt hk hid).1,Nat.lt_of_lt_of_le hlt hs⟩
 | .tsl T id,xs,_,⟨A,n,cap,h,hp⟩=>by
  simp only[Sh.ren]
  cases hid:ρ id with
  |none=>exact⟨_,h,rfl⟩
  |some j =>
   refine⟨A,n,cap,h,hp.imp (fun h=>h) (fun⟨gb,cur,e,hk,hh,rest⟩=>?_)⟩
   have hlt:gb<w.heap.size:=(Array.getElem?_eq_some_iff.1 hh).1
   obtain⟨k1,k2⟩:=hr gb id 0 j hlt hk hid
   exact⟨gb,cur,e,k1,k2.trans hh,rest⟩
 | .nbox id,_,_,⟨p,h,hp⟩=>by
  simp only[Sh.ren]
  cases hid:σ id with
  |none=>exact⟨_,h,rfl⟩
  |some j=>exact⟨p,h,hp.imp (fun h=>h) (fun⟨b,e,hk,hlt⟩=>⟨b,e,(hb b id j hlt hk hid).1,Nat.lt_of_lt_of_le hlt hs⟩)⟩
 | .wsl tag id e,xs,cs,⟨h1,h2⟩=>by
  simp only[Sh.ren]
  cases hid:σ id with
  |none=>obtain⟨A,len,cap,h,_⟩:=h1;exact⟨_,h,rfl⟩
  |some j =>
   refine⟨RWsl.ext g hs (fun b hlt hk=>hb b id j hlt hk hid) h1,fun t A len cap ht hc=>?_⟩
   cases tag with
   |none=>cases ht
   |some t0 =>
    rcases h2 t0 A len cap rfl hc with h |h |⟨a,ha,hsp,hk,arr,T,hh,hle⟩
    ·exact .inl h
    ·exact .inr (.inl h)
    ·have hlt:a.block<w.heap.size:=by
      rcases Nat.lt_or_ge a.block w.heap.size with h' |h'
      ·exact h'
      ·rw[Array.getElem?_eq_none h'] at hh;cases hh
     obtain⟨k1,k2⟩:=hr _ _ _ _ hlt hk ht
     exact .inr (.inr ⟨a,ha,hsp,k1,arr,T,k2.trans hh,hle⟩)
 | .wref id e,x,_,⟨a,cc,h,h1,h2⟩=>by
  simp only[Sh.ren]
  cases hid:σ id with
  |none=>exact⟨_,h,rfl⟩
  |some j=>exact⟨a,cc,h,RWin.ext hs (fun b hlt hk=>hb b id j hlt hk hid) h1,h2.ext g⟩
 | .rowc _,_,_,h=>h.elim
 | .mapc,_,_,h=>h.elim
 | .tyc _ s,x,cs,h=>RS.ren g hs hr hb s x cs h
 | .ref t _,x,_,⟨a,cc,h,h1,h2⟩=>⟨a,cc,h,RT.ext g t x cc h1,h2.ext g⟩
 | .fn _ caps,x,_,⟨cc,h,h1⟩=>⟨cc,h,RS.ren g hs hr hb caps x cc h1⟩
 | .lit _,_,_,h=>h
 | .tup _,_,_,h=>h.elim
 | .top,_,_,h=>h
def MapIs (m:List (Int×Int)) (es:Array MapEntry):Prop:=es.toList.map (fun e=>(e.key,e.val))=m.map fun p=>(Value.int .i64 p.1,Value.int .i64 p.2)
def BoxOk (w:World) (K:Kinds):(s:Sh)→s.den→Obj→Prop
 | .rowc e,xs,o=>∃cs T,o=.cells cs T (0,0)∧RL (RT w K e) xs cs.toList
 | .mapc,m,o=>∃es c,o=.map es c∧MapIs m es
 | .tyc T s,x,o=>∃cs,o=.cells cs T (0,0)∧RS w K s x cs.toList
 |s,x,o=>∃cs T,o=.cells cs T (0,0)∧RS w K s x cs.toList
theorem BoxOk.of_RS {w:World} {K:Kinds} {s:Sh} {x:s.den} {cs:Array Value} {T:TypeId} (hb:s.bare=true) (h:RS w K s x cs.toList):BoxOk w K s x (.cells cs T (0,0)):=by
 cases s
 case rowc=>exact h.elim
 case mapc=>exact h.elim
 case tyc=>cases hb
 all_goals exact⟨cs,T,rfl,h⟩
theorem BoxOk.imp {w w':World} {K K':Kinds} (hrt:∀(t:Ty) (x:t.den) (cs:List Value),RT w K t x cs→RT w' K' t x cs) (hrs:∀(s:Sh) (x:s.den) (cs:List Value),RS w K s x cs→RS w' K' s x cs) {s:Sh} {x:s.den} {o:Obj} (h:BoxOk w K s x o):BoxOk w' K' s x o:=by
 cases s
 case rowc e=>obtain⟨cs,T,h1,h2⟩:=h;exact⟨cs,T,h1,RL.imp (hrt e) x _ h2⟩
 case mapc=>exact h
 case tyc T s=>obtain⟨cs,h1,h2⟩:=h;exact⟨cs,h1,hrs s x _ h2⟩
 all_goals exact(let⟨cs,T,h1,h2⟩:=h;⟨cs,T,h1,hrs _ x _ h2⟩)
theorem BoxOk.sub {w:World} {K:Kinds} {c v:AV} {off n:Nat} {g:Bool} {o:Obj} (hs:c.sub off n g=some v) (h:BoxOk w K c.sh c.v o):∃cs T,o=.cells cs T (0,0)∧RS w K c.sh c.v cs.toList:=by
 obtain⟨s,x⟩:=c
 cases s
 case rowc=>cases hs
 case mapc=>cases hs
 case tyc T s=>obtain⟨cs,h1,h2⟩:=h;exact⟨cs,T,h1,h2⟩
 all_goals exact h
theorem mkPair_bare (a b:AV):(AV.mkPair a b).sh.bare=true:=by
 obtain⟨s,x⟩:=a
 obtain⟨t,y⟩:=b
 cases s<;>cases t<;>rfl
theorem Ty.upd_bare:∀(t:Ty) (x:t.den) (off:Nat) (y z:AV),y.sh.bare=true→Ty.upd t x off y=some z→z.sh.bare=true:=by
 intro t x off y z hy h
 cases t<;>simp only[Ty.upd] at h
 all_goals
  repeat' (split at h)
  all_goals first
   |(cases h;done)
   |(cases h;exact hy)
   |(cases h;exact mkPair_bare _ _)
   |(cases h;rfl)
theorem Sh.upd_bare:∀(s:Sh) (x:s.den) (off:Nat) (y z:AV),s.bare=true→y.sh.bare=true→Sh.upd s x off y=some z→z.sh.bare=true:=by
 intro s x off y z hs hy h
 cases s
 case ty t=>exact Ty.upd_bare t x off y z hy h
 case tyc=>cases hs
 all_goals
  simp only[Sh.upd] at h
  repeat' (split at h)
  all_goals first
   |(cases h;done)
   |(cases h;exact hy)
   |(cases h;exact mkPair_bare _ _)
theorem BoxOk.upd {w:World} {K:Kinds} {c y v:AV} {off:Nat} {o:Obj} (hs:c.upd off y=some v) (hy:y.sh.bare=true) (h:BoxOk w K c.sh c.v o) :
  ∃cs T,o=.cells cs T (0,0)∧RS w K c.sh c.v cs.toList∧∀cs':Array Value,RS w K v.sh v.v cs'.toList→BoxOk w K v.sh v.v (.cells cs' T (0,0)):=by
 obtain⟨s,x⟩:=c
 have hs':Sh.upd s x off y=some v:=hs
 cases s
 case rowc=>cases hs
 case mapc=>cases hs
 case tyc T s =>
  obtain⟨cs,h1,h2⟩:=h
  refine⟨cs,T,h1,h2,fun cs' h'=>?_⟩
  simp only[Sh.upd] at hs'
  split at hs'
  ·cases hs'
   exact⟨cs',rfl,h'⟩
  ·cases hs'
 all_goals
  obtain⟨cs,T,h1,h2⟩:=h
  exact⟨cs,T,h1,h2,fun cs' h'=>BoxOk.of_RS (Sh.upd_bare _ x off y v rfl hy hs') h'⟩
theorem ren_agg (ρ σ:Nat→Option Nat):∀(s:Sh) (x:s.den),(s.ren ρ σ x).sh.agg=s.agg
 | .ty _,_=>rfl
 | .pair _ _,_=>mkPair_agg _ _
 | .osl id e,_=>by simp only[Sh.ren];cases ρ id<;>rfl
 | .box id off,_=>by simp only[Sh.ren];cases σ id<;>rfl
 | .boxi id off n e,_=>by simp only[Sh.ren];cases σ id<;>rfl
 | .win id e,_=>by simp only[Sh.ren];cases σ id<;>rfl
 | .elp id e o,_=>by simp only[Sh.ren];cases σ id<;>rfl
 | .mp id,_=>by simp only[Sh.ren];cases σ id<;>rfl
 | .nbox id,_=>by simp only[Sh.ren];cases σ id<;>rfl
 | .tsl T id,_=>by simp only[Sh.ren];cases ρ id<;>rfl
 | .wsl _ id e,_=>by simp only[Sh.ren];cases σ id<;>rfl
 | .wref id e,_=>by simp only[Sh.ren];cases σ id<;>rfl
 | .rowc _,_=>rfl
 | .mapc,_=>rfl
 | .tyc _ s,x=>ren_agg ρ σ s x
 | .ref _ _,_=>rfl
 | .fn _ _,_=>rfl
 | .lit _,_=>rfl
 | .tup _,_=>rfl
 | .top,_=>rfl
theorem ren_bare (ρ σ:Nat→Option Nat):∀(s:Sh) (x:s.den),s.bare=true→(s.ren ρ σ x).sh.bare=true
 | .ty _,_,_=>rfl
 | .pair _ _,_,_=>mkPair_bare _ _
 | .osl id e,_,_=>by simp only[Sh.ren];cases ρ id<;>rfl
 | .box id off,_,_=>by simp only[Sh.ren];cases σ id<;>rfl
 | .boxi id off n e,_,_=>by simp only[Sh.ren];cases σ id<;>rfl
 | .win id e,_,_=>by simp only[Sh.ren];cases σ id<;>rfl
 | .elp id e o,_,_=>by simp only[Sh.ren];cases σ id<;>rfl
 | .mp id,_,_=>by simp only[Sh.ren];cases σ id<;>rfl
 | .nbox id,_,_=>by simp only[Sh.ren];cases σ id<;>rfl
 | .tsl T id,_,_=>by simp only[Sh.ren];cases ρ id<;>rfl
 | .wsl _ id e,_,_=>by simp only[Sh.ren];cases σ id<;>rfl
 | .wref id e,_,_=>by simp only[Sh.ren];cases σ id<;>rfl
 | .rowc _,_,_=>rfl
 | .mapc,_,_=>rfl
 | .tyc _ _,_,h=>by cases h
 | .ref _ _,_,_=>rfl
 | .fn _ _,_,_=>rfl
 | .lit _,_,_=>rfl
 | .tup _,_,_=>rfl
 | .top,_,_=>rfl
theorem BoxOk.ren {w w':World} {K K':Kinds} {ρ σ:Nat→Option Nat} (g:Keep w K w' K') (hs:w.heap.size≤w'.heap.size)
  (hr:∀b id u j,b<w.heap.size→K b=.row id u→ρ id=some j→K' b=.row j u∧w'.heap[b]?=w.heap[b]?)
  (hb:∀b id j,b<w.heap.size→K b=.box id→σ id=some j→K' b=.box j∧∀n,RowLen w b n→RowLen w' b n) {a:AV} {o:Obj} (h:BoxOk w K a.sh a.v o):BoxOk w' K' (a.ren ρ σ).sh (a.ren ρ σ).v o:=by
 obtain⟨s,x⟩:=a
 cases s
 case rowc e=>obtain⟨cs,T,h1,h2⟩:=h;exact⟨cs,T,h1,RL.imp (RT.ext g e) x _ h2⟩
 case mapc=>exact h
 case tyc T s=>obtain⟨cs,h1,h2⟩:=h;exact⟨cs,h1,RS.ren g hs hr hb s x _ h2⟩
 case tup=>obtain⟨cs,T,h1,h2⟩:=h;exact h2.elim
 all_goals
  obtain⟨cs,T,h1,h2⟩:=h
  subst h1
  exact BoxOk.of_RS (ren_bare ρ σ _ x rfl) (RS.ren g hs hr hb _ x _ h2)
theorem R1.toRV {w:World} {K:Kinds} {a:AV} {v:Value} (h:R1 w K a.sh a.v v):RV w K a v:=by
 obtain⟨s,x⟩:=a
 cases s
 case tup=>exact h.1.elim
 case top=>trivial
 all_goals exact h
section
variable {w w':World} {K K':Kinds} {ρ σ:Nat→Option Nat} (g:Keep w K w' K') (hs:w.heap.size≤w'.heap.size)
  (hr:∀b id u j,b<w.heap.size→K b=.row id u→ρ id=some j→K' b=.row j u∧w'.heap[b]?=w.heap[b]?)
  (hb:∀b id j,b<w.heap.size→K b=.box id→σ id=some j→K' b=.box j∧∀n,RowLen w b n→RowLen w' b n)
include g hs hr hb
theorem R1.ren (s:Sh) (x:s.den) (v:Value) (h:R1 w K s x v):R1 w' K' (s.ren ρ σ x).sh (s.ren ρ σ x).v v :=
 ⟨RS.ren g hs hr hb s x _ h.1,by rw[ren_agg];exact h.2.1,by rw[ren_agg];exact h.2.2⟩
theorem RTup.ren:∀(s:Sh) (x:s.den) (vs:List Value),RTup w K s x vs→RTup w' K' (s.renT ρ σ x).sh (s.renT ρ σ x).v vs:=by
 intro s
 induction s with
 |pair a b _ ihb =>
  intro x vs hh
  cases vs with
  |nil=>exact hh.elim
  |cons v vs=>exact⟨R1.ren g hs hr hb a x.1 v hh.1,ihb x.2 vs hh.2⟩
 |ty t=>intro x vs hh;cases t<;>first|exact hh |exact hh.elim
 |osl=>intro x vs hh;exact hh.elim
 |box=>intro x vs hh;exact hh.elim
 |boxi=>intro x vs hh;exact hh.elim
 |win=>intro x vs hh;exact hh.elim
 |elp=>intro x vs hh;exact hh.elim
 |mp=>intro x vs hh;exact hh.elim
 |nbox=>intro x vs hh;exact hh.elim
 |tsl=>intro x vs hh;exact hh.elim
 |wsl=>intro x vs hh;exact hh.elim
 |wref=>intro x vs hh;exact hh.elim
 |rowc=>intro x vs hh;exact hh.elim
 |mapc=>intro x vs hh;exact hh.elim
 |tyc=>intro x vs hh;exact hh.elim
 |ref=>intro x vs hh;exact hh.elim
 |fn=>intro x vs hh;exact hh.elim
 |lit=>intro x vs hh;exact hh.elim
 |tup=>intro x vs hh;exact hh.elim
 |top=>intro x vs hh;exact hh.elim
theorem RV.ren {a:AV} {v:Value} (h:RV w K a v):RV w' K' (a.ren ρ σ) v:=by
 obtain⟨s,x⟩:=a
 cases s
 case tup s=>obtain⟨vs,e,hh⟩:=h;exact⟨vs,e,RTup.ren g hs hr hb s x _ hh⟩
 case top=>trivial
 all_goals exact R1.toRV (R1.ren g hs hr hb _ x v h)
end
end Go.Av
end
section
namespace Go.Av
open Go
section
variable {w:World} {K:Kinds}
theorem RL.get {α:Type} {R:α→List Value→Prop} {n:Nat} (hn:∀x cs,R x cs→cs.length=n) (d:α):∀(xs:List α) (cs:List Value) (i:Nat),RL R xs cs→i<xs.length →
  R (xs.getD i d) ((cs.drop (i*n)).take n)
 |[],_,i,_,hi=>by simp at hi
 |x::xs,_,0,⟨c1,c2,e,h1,h2⟩,_=>by
  subst e
  have:=hn _ _ h1
  simp[←this,h1]
 |x::xs,_,i+1,⟨c1,c2,e,h1,h2⟩,hi=>by
  subst e
  have h:=RL.get hn d xs c2 i h2 (by simpa using hi)
  have h3:=hn _ _ h1
  have:(c1++c2).drop ((i+1)*n)=c2.drop (i*n):=by
   rw[List.drop_append,Nat.succ_mul,h3]
   simp[show i*n+n-n=i*n by omega,show c1.drop (i*n+n)=[] by simp[h3]]
  rw[this]
  simpa using h
theorem RL.set {α:Type} {R:α→List Value→Prop} {n:Nat} (hn:∀x cs,R x cs→cs.length=n):∀(xs:List α) (cs:List Value) (i:Nat) (u:α) (cu:List Value),RL R xs cs→i<xs.length→R u cu →
  RL R (xs.set i u) (cs.take (i*n)++cu++cs.drop (i*n+n))
 |[],_,i,_,_,_,hi,_=>by simp at hi
 |x::xs,_,0,u,cu,⟨c1,c2,e,h1,h2⟩,_,hu=>by
  subst e
  have h3:=hn _ _ h1
  refine⟨cu,c2,?_,hu,h2⟩
  simp[←h3]
 |x::xs,_,i+1,u,cu,⟨c1,c2,e,h1,h2⟩,hi,hu=>by
  subst e
  have h:=RL.set hn xs c2 i u cu h2 (by simpa using hi) hu
  have h3:=hn _ _ h1
  refine⟨c1,_,?_,h1,h⟩
  rw[List.take_append,List.drop_append,Nat.succ_mul,h3]
  simp[show i*n+n-n=i*n by omega,show i*n+n+n-n=i*n+n by omega,show c1.take (i*n+n)=c1 from List.take_of_length_le (by omega),
   show c1.drop (i*n+n+n)=[] from List.drop_of_length_le (by omega)]
theorem RL.append {α:Type} {R:α→List Value→Prop}:∀{xs ys:List α} {c1 c2:List Value},RL R xs c1→RL R ys c2→RL R (xs++ys) (c1++c2)
 |[],_,_,_,h1,h2=>by rw[show _=[] from h1];exact h2
 |_::_,_,_,_,⟨a,b,e,h,h'⟩,h2=>⟨a,b++_,by rw[e,List.append_assoc],h,RL.append h' h2⟩
theorem RL.split {α:Type} {R:α→List Value→Prop} {n:Nat} (hn:∀x cs,R x cs→cs.length=n):∀(xs:List α) (cs:List Value) (i:Nat),RL R xs cs→i≤xs.length →
  RL R (xs.take i) (cs.take (i*n))∧RL R (xs.drop i) (cs.drop (i*n))
 |xs,cs,0,h,_=>by simp[RL];exact h
 |[],_,i+1,_,hi=>by simp at hi
 |x::xs,_,i+1,⟨c1,c2,e,h1,h2⟩,hi=>by
  subst e
  obtain⟨g1,g2⟩:=RL.split hn xs c2 i h2 (by simpa using hi)
  have h3:=hn _ _ h1
  have e1:(c1++c2).take ((i+1)*n)=c1++c2.take (i*n):=by
   rw[List.take_append,Nat.succ_mul,h3,List.take_of_length_le (by omega)]
   simp
  have e2:(c1++c2).drop ((i+1)*n)=c2.drop (i*n):=by
   rw[List.drop_append,Nat.succ_mul,h3,List.drop_of_length_le (by omega)]
   simp
  rw[e1,e2]
  exact⟨⟨c1,_,rfl,h1,g1⟩,g2⟩
theorem drop_mid {α:Type} (D:List α) (m n:Nat) (h:m≤n) (hl:n≤D.length):D.drop m=(D.take n).drop m++D.drop n:=by
 conv=>lhs;rw[←List.take_append_drop n D]
 rw[List.drop_append_of_le_length (by rw[List.length_take];omega)]
theorem Ty.sub_RT:∀(t:Ty) (x:t.den) (off n:Nat) (g:Bool) (av:AV) (cs:List Value),Ty.sub t x off n g=some av→RT w K t x cs →
  RS w K av.sh av.v ((cs.drop off).take n)∧av.sh.agg=g∧off+n≤t.size:=by
 intro t
 induction t with
 |unit =>
  intro x off n g av cs h hr
  simp only[Ty.sub] at h
  split at h
  ·rename_i e
   simp at e
   cases h
   obtain⟨e1,e2,e3⟩:=e
   subst e1 e2 e3
   cases hr
   exact⟨rfl,rfl,Nat.le_refl _⟩
  ·cases h
 |pair a b iha ihb =>
  intro x off n g av cs h hr
  obtain⟨c1,c2,e,h1,h2⟩:=hr
  have l1:=RT.length a _ _ h1
  have l2:=RT.length b _ _ h2
  subst e
  simp only[Ty.sub] at h
  split at h
  ·rename_i e
   simp at e
   cases h
   obtain⟨e1,e2,e3,_⟩:=e
   subst e1 e2 e3
   refine⟨⟨c1,c2,?_,h1,h2⟩,rfl,Nat.le_of_eq (by simp[Ty.size])⟩
   rw[List.drop_zero,List.take_of_length_le (by simp[l1,l2])]
  ·split at h
   ·split at h
    ·rename_i hlt hle
     obtain⟨i1,i2,i3⟩:=iha _ _ _ _ _ _ h h1
     refine⟨?_,i2,by simp only[Ty.size];omega⟩
     rw[List.drop_append,List.take_append_of_le_length (by simp[l1];omega)]
     exact i1
    ·cases h
   ·rename_i e hge
    obtain⟨i1,i2,i3⟩:=ihb _ _ _ _ _ _ h h2
    refine⟨?_,i2,by simp only[Ty.size];omega⟩
    rw[List.drop_append,List.drop_of_length_le (by omega),List.nil_append,l1]
    exact i1
 |arr k e ih =>
  intro x off n g av cs h hr
  obtain⟨hk,hl⟩:=hr
  have ll:=RL.length (RT.length e) x cs hl
  simp only[Ty.sub] at h
  split at h
  ·rename_i c
   simp at c
   cases h
   obtain⟨e1,e2,e3⟩:=c
   subst e1 e2 e3
   refine⟨⟨hk,?_⟩,rfl,Nat.le_of_eq (by simp[Ty.size])⟩
   rw[List.drop_zero,List.take_of_length_le (by rw[ll,hk];exact Nat.le_refl _)]
   exact hl
  ·split at h
   ·rename_i c
    obtain⟨c1,c2,c3⟩:=c
    have hg:=RL.get (RT.length e) e.dflt x cs (off / e.size) hl (by omega)
    obtain⟨i1,i2,i3⟩:=ih _ _ _ _ _ _ h hg
    have hdm:=Nat.div_add_mod off e.size
    have hcomm:off / e.size*e.size=e.size*(off / e.size):=Nat.mul_comm _ _
    refine⟨?_,i2,?_⟩
    ·have:(((cs.drop (off / e.size*e.size)).take e.size).drop (off % e.size)).take n=(cs.drop off).take n:=by
      rw[List.drop_take,List.drop_drop,List.take_take,show off / e.size*e.size+off % e.size=off by omega,show min n (e.size-off % e.size)=n by omega]
     rwa [this] at i1
    ·have h1:(off / e.size+1)*e.size≤k*e.size:=Nat.mul_le_mul_right _ c1
     simp only[Ty.size]
     rw[Nat.succ_mul] at h1
     omega
   ·cases h
 |int k =>
  intro x off n g av cs h hr
  simp only[Ty.sub] at h
  split at h
  ·rename_i c
   simp at c
   cases h
   obtain⟨e1,e2,e3⟩:=c
   subst e1 e2 e3
   refine⟨?_,rfl,Nat.le_refl _⟩
   have hlen:=RT.length _ _ _ hr
   rw[List.drop_zero,List.take_of_length_le (by rw[hlen];exact Nat.le_refl _)]
   exact hr
  ·cases h
 |bool =>
  intro x off n g av cs h hr
  simp only[Ty.sub] at h
  split at h
  ·rename_i c
   simp at c
   cases h
   obtain⟨e1,e2,e3⟩:=c
   subst e1 e2 e3
   refine⟨?_,rfl,Nat.le_refl _⟩
   have hlen:=RT.length _ _ _ hr
   rw[List.drop_zero,List.take_of_length_le (by rw[hlen];exact Nat.le_refl _)]
   exact hr
  ·cases h
 |str =>
  intro x off n g av cs h hr
  simp only[Ty.sub] at h
  split at h
  ·rename_i c
   simp at c
   cases h
   obtain⟨e1,e2,e3⟩:=c
   subst e1 e2 e3
   refine⟨?_,rfl,Nat.le_refl _⟩
   have hlen:=RT.length _ _ _ hr
   rw[List.drop_zero,List.take_of_length_le (by rw[hlen];exact Nat.le_refl _)]
   exact hr
  ·cases h
 |func =>
  intro x off n g av cs h hr
  simp only[Ty.sub] at h
  split at h
  ·rename_i c
   simp at c
   cases h
   obtain⟨e1,e2,e3⟩:=c
   subst e1 e2 e3
   refine⟨?_,rfl,Nat.le_refl _⟩
   have hlen:=RT.length _ _ _ hr
   rw[List.drop_zero,List.take_of_length_le (by rw[hlen];exact Nat.le_refl _)]
   exact hr
  ·cases h
 |sl e _ =>
  intro x off n g av cs h hr
  simp only[Ty.sub] at h
  split at h
  ·rename_i c
   simp at c
   cases h
   obtain⟨e1,e2,e3⟩:=c
   subst e1 e2 e3
   refine⟨?_,rfl,Nat.le_refl _⟩
   have hlen:=RT.length _ _ _ hr
   rw[List.drop_zero,List.take_of_length_le (by rw[hlen];exact Nat.le_refl _)]
   exact hr
  ·cases h
theorem Sh.sub_RS:∀(s:Sh) (x:s.den) (off n:Nat) (g:Bool) (av:AV) (cs:List Value),Sh.sub s x off n g=some av→RS w K s x cs →
  RS w K av.sh av.v ((cs.drop off).take n)∧av.sh.agg=g∧off+n≤s.size:=by
 intro s
 induction s with
 |ty t=>intro x off n g av cs h hr;exact Ty.sub_RT t x off n g av cs h hr
 |pair a b iha ihb =>
  intro x off n g av cs h hr
  have hr':=hr
  obtain⟨c1,c2,e,h1,h2⟩:=hr
  have l1:=RS.length a _ _ h1
  have l2:=RS.length b _ _ h2
  subst e
  simp only[Sh.sub] at h
  split at h
  ·rename_i e
   simp at e
   cases h
   obtain⟨e1,e2,e3,_⟩:=e
   subst e1 e2 e3
   refine⟨⟨c1,c2,?_,h1,h2⟩,rfl,Nat.le_of_eq (by simp[Sh.size])⟩
   rw[List.drop_zero,List.take_of_length_le (by simp[l1,l2])]
  ·split at h
   ·split at h
    ·rename_i hlt hle
     obtain⟨i1,i2,i3⟩:=iha _ _ _ _ _ _ h h1
     refine⟨?_,i2,by simp only[Sh.size];omega⟩
     rw[List.drop_append,List.take_append_of_le_length (by simp[l1];omega)]
     exact i1
    ·cases h
   ·rename_i e hge
    obtain⟨i1,i2,i3⟩:=ihb _ _ _ _ _ _ h h2
    refine⟨?_,i2,by simp only[Sh.size];omega⟩
    rw[List.drop_append,List.drop_of_length_le (by omega),List.nil_append,l1]
    exact i1
 |tup _ _=>intro x off n g av cs h hr;cases h
 |top=>intro x off n g av cs h hr;cases h
 |osl id e =>
  intro x off n g av cs h hr
  simp only[Sh.sub] at h
  split at h
  ·rename_i c
   simp at c
   cases h
   obtain⟨e1,e2,e3⟩:=c
   subst e1 e2 e3
   refine⟨?_,rfl,Nat.le_refl _⟩
   have hlen:=RS.length _ _ _ hr
   rw[List.drop_zero,List.take_of_length_le (by rw[hlen];exact Nat.le_refl _)]
   exact hr
  ·cases h
 |box id o =>
  intro x off n g av cs h hr
  simp only[Sh.sub] at h
  split at h
  ·rename_i c
   simp at c
   cases h
   obtain⟨e1,e2,e3⟩:=c
   subst e1 e2 e3
   refine⟨?_,rfl,Nat.le_refl _⟩
   have hlen:=RS.length _ _ _ hr
   rw[List.drop_zero,List.take_of_length_le (by rw[hlen];exact Nat.le_refl _)]
   exact hr
  ·cases h
 |boxi id o m e =>
  intro x off n g av cs h hr
  simp only[Sh.sub] at h
  split at h
  ·rename_i c
   simp at c
   cases h
   obtain⟨e1,e2,e3⟩:=c
   subst e1 e2 e3
   refine⟨?_,rfl,Nat.le_refl _⟩
   have hlen:=RS.length _ _ _ hr
   rw[List.drop_zero,List.take_of_length_le (by rw[hlen];exact Nat.le_refl _)]
   exact hr
  ·cases h
 |win id e =>
  intro x off n g av cs h hr
  simp only[Sh.sub] at h
  split at h
  ·rename_i c
   simp at c
   cases h
   obtain⟨e1,e2,e3⟩:=c
   subst e1 e2 e3
   refine⟨?_,rfl,Nat.le_refl _⟩
   have hlen:=RS.length _ _ _ hr
   rw[List.drop_zero,List.take_of_length_le (by rw[hlen];exact Nat.le_refl _)]
   exact hr
  ·cases h
 |elp id e o =>
  intro x off n g av cs h hr
  simp only[Sh.sub] at h
  split at h
  ·rename_i c
   simp at c
   cases h
   obtain⟨e1,e2,e3⟩:=c
   subst e1 e2 e3
   refine⟨?_,rfl,Nat.le_refl _⟩
   have hlen:=RS.length _ _ _ hr
   rw[List.drop_zero,List.take_of_length_le (by rw[hlen];exact Nat.le_refl _)]
   exact hr
  ·cases h
 |mp id =>
  intro x off n g av cs h hr
  simp only[Sh.sub] at h
  split at h
  ·rename_i c
   simp at c
   cases h
   obtain⟨e1,e2,e3⟩:=c
   subst e1 e2 e3
   refine⟨?_,rfl,Nat.le_refl _⟩
   have hlen:=RS.length _ _ _ hr
   rw[List.drop_zero,List.take_of_length_le (by rw[hlen];exact Nat.le_refl _)]
   exact hr
  ·cases h
 |tsl T id =>
  intro x off n g av cs h hr
  simp only[Sh.sub] at h
  split at h
  ·rename_i c
   simp at c
   cases h
   obtain⟨e1,e2,e3⟩:=c
   subst e1 e2 e3
   refine⟨?_,rfl,Nat.le_refl _⟩
   have hlen:=RS.length _ _ _ hr
   rw[List.drop_zero,List.take_of_length_le (by rw[hlen];exact Nat.le_refl _)]
   exact hr
  ·cases h
 |nbox id =>
  intro x off n g av cs h hr
  simp only[Sh.sub] at h
  split at h
  ·rename_i c
   simp at c
   cases h
   obtain⟨e1,e2,e3⟩:=c
   subst e1 e2 e3
   refine⟨?_,rfl,Nat.le_refl _⟩
   have hlen:=RS.length _ _ _ hr
   rw[List.drop_zero,List.take_of_length_le (by rw[hlen];exact Nat.le_refl _)]
   exact hr
  ·cases h
 |wsl tg id e =>
  intro x off n g av cs h hr
  simp only[Sh.sub] at h
  split at h
  ·rename_i c
   simp at c
   cases h
   obtain⟨e1,e2,e3⟩:=c
   subst e1 e2 e3
   refine⟨?_,rfl,Nat.le_refl _⟩
   have hlen:=RS.length _ _ _ hr
   rw[List.drop_zero,List.take_of_length_le (by rw[hlen];exact Nat.le_refl _)]
   exact hr
  ·cases h
 |wref id e =>
  intro x off n g av cs h hr
  simp only[Sh.sub] at h
  split at h
  ·rename_i c
   simp at c
   cases h
   obtain⟨e1,e2,e3⟩:=c
   subst e1 e2 e3
   refine⟨?_,rfl,Nat.le_refl _⟩
   have hlen:=RS.length _ _ _ hr
   rw[List.drop_zero,List.take_of_length_le (by rw[hlen];exact Nat.le_refl _)]
   exact hr
  ·cases h
 |rowc=>intro x off n g av cs h hr;cases h
 |mapc=>intro x off n g av cs h hr;cases h
 |tyc T s ih=>intro x off n g av cs h hr;exact ih x off n g av cs h hr
 |ref t o =>
  intro x off n g av cs h hr
  simp only[Sh.sub] at h
  split at h
  ·rename_i c
   simp at c
   cases h
   obtain⟨e1,e2,e3⟩:=c
   subst e1 e2 e3
   refine⟨?_,rfl,Nat.le_refl _⟩
   have hlen:=RS.length _ _ _ hr
   rw[List.drop_zero,List.take_of_length_le (by rw[hlen];exact Nat.le_refl _)]
   exact hr
  ·cases h
 |fn f c _ =>
  intro x off n g av cs h hr
  simp only[Sh.sub] at h
  split at h
  ·rename_i c
   simp at c
   cases h
   obtain⟨e1,e2,e3⟩:=c
   subst e1 e2 e3
   refine⟨?_,rfl,Nat.le_refl _⟩
   have hlen:=RS.length _ _ _ hr
   rw[List.drop_zero,List.take_of_length_le (by rw[hlen];exact Nat.le_refl _)]
   exact hr
  ·cases h
 |lit v =>
  intro x off n g av cs h hr
  simp only[Sh.sub] at h
  split at h
  ·rename_i c
   simp at c
   cases h
   obtain⟨e1,e2,e3⟩:=c
   subst e1 e2 e3
   refine⟨?_,rfl,Nat.le_refl _⟩
   have hlen:=RS.length _ _ _ hr
   rw[List.drop_zero,List.take_of_length_le (by rw[hlen];exact Nat.le_refl _)]
   exact hr
  ·cases h
theorem Ty.upd_RT:∀(t:Ty) (x:t.den) (off:Nat) (y z:AV) (cs cy:List Value),Ty.upd t x off y=some z→RT w K t x cs→RS w K y.sh y.v cy →
  RS w K z.sh z.v (cs.take off++cy++cs.drop (off+y.sh.size))∧z.sh.agg=t.agg∧off+y.sh.size≤t.size:=by
 intro t
 induction t with
 |pair a b iha ihb =>
  intro x off y z cs cy h hr hy
  obtain⟨c1,c2,e,h1,h2⟩:=hr
  have l1:=RT.length a _ _ h1
  have l2:=RT.length b _ _ h2
  have ly:=RS.length _ _ _ hy
  subst e
  simp only[Ty.upd] at h
  split at h
  ·rename_i e
   simp at e
   cases h
   obtain⟨e1,e2,e3,_⟩:=e
   subst e1
   refine⟨?_,e3,by simp[Ty.size,e2]⟩
   rw[List.take_zero,List.nil_append,Nat.zero_add,List.drop_of_length_le (by simp[l1,l2,e2]),List.append_nil]
   exact hy
  ·split at h
   ·rename_i e hlt
    split at h
    ·rename_i z' hz
     cases h
     obtain⟨i1,i2,i3⟩:=iha _ _ _ _ _ _ hz h1 hy
     refine⟨?_,mkPair_agg _ _,by simp only[Ty.size];omega⟩
     have:=mkPair_RS (b:=⟨.ty b,x.2⟩) i1 h2
     rw[List.take_append_of_le_length (by omega),List.drop_append_of_le_length (by omega),←List.append_assoc]
     exact this
    ·cases h
   ·rename_i e hge
    split at h
    ·rename_i z' hz
     cases h
     obtain⟨i1,i2,i3⟩:=ihb _ _ _ _ _ _ hz h2 hy
     refine⟨?_,mkPair_agg _ _,by simp only[Ty.size];omega⟩
     have:=mkPair_RS (a:=⟨.ty a,x.1⟩) h1 i1
     rw[List.take_append,List.drop_append,List.take_of_length_le (by omega),l1,List.drop_of_length_le (show c1.length≤off+y.sh.size by omega),List.nil_append,
      show off+y.sh.size-a.size=off-a.size+y.sh.size by omega]
     simpa [List.append_assoc] using this
    ·cases h
 |arr k e ih =>
  intro x off y z cs cy h hr hy
  obtain⟨hk,hl⟩:=hr
  have ll:=RL.length (RT.length e) x cs hl
  have ly:=RS.length _ _ _ hy
  simp only[Ty.upd] at h
  split at h
  ·rename_i c
   simp at c
   cases h
   obtain⟨e1,e2,e3⟩:=c
   subst e1
   refine⟨?_,e3,by simp[Ty.size,e2]⟩
   rw[List.take_zero,List.nil_append,Nat.zero_add,List.drop_of_length_le (by rw[ll,e2,hk];exact Nat.le_refl _),List.append_nil]
   exact hy
  ·split at h
   ·rename_i c
    obtain⟨c1,c2⟩:=c
    split at h
    ·rename_i z' hz
     split at h
     ·rename_i u hu
      cases h
      have hi:off / e.size<List.length x:=by omega
      have hg:=RL.get (RT.length e) e.dflt x cs (off / e.size) hl hi
      obtain⟨i1,i2,i3⟩:=ih _ _ _ _ _ _ hz hg hy
      have hdm:=Nat.div_add_mod off e.size
      have hcomm:off / e.size*e.size=e.size*(off / e.size):=Nat.mul_comm _ _
      have hub:(off / e.size+1)*e.size≤k*e.size:=Nat.mul_le_mul_right _ c1
      rw[Nat.succ_mul] at hub
      refine⟨⟨by simpa using hk,?_⟩,rfl,by simp only[Ty.size];omega⟩
      have hs:=RL.set (RT.length e) x cs (off / e.size) u _ hl hi (as_RT _ _ _ _ _ hu i1)
      have hcl:cs.length=k*e.size:=by rw[ll,hk]
      have:cs.take (off / e.size*e.size)++(((cs.drop (off / e.size*e.size)).take e.size).take (off % e.size)++cy++((cs.drop (off / e.size*e.size)).take e.size).drop (off % e.size+y.sh.size))
        ++ cs.drop (off / e.size*e.size+e.size)=cs.take off++cy++cs.drop (off+y.sh.size):=by
       have e1:((cs.drop (off / e.size*e.size)).take e.size).take (off % e.size)=(cs.drop (off / e.size*e.size)).take (off % e.size):=by
        rw[List.take_take,Nat.min_eq_left (by omega)]
       have e2:cs.take off=cs.take (off / e.size*e.size)++(cs.drop (off / e.size*e.size)).take (off % e.size):=by
        rw[←List.take_add,show off / e.size*e.size+off % e.size=off by omega]
       have e3:cs.drop (off+y.sh.size)=((cs.drop (off / e.size*e.size)).take e.size).drop (off % e.size+y.sh.size)++cs.drop (off / e.size*e.size+e.size):=by
        have:cs.drop (off+y.sh.size)=(cs.drop (off / e.size*e.size)).drop (off % e.size+y.sh.size):=by
         rw[List.drop_drop,show off / e.size*e.size+(off % e.size+y.sh.size)=off+y.sh.size by omega]
        rw[this]
        rw[drop_mid (cs.drop (off / e.size*e.size)) (off % e.size+y.sh.size) e.size (by omega) (by rw[List.length_drop];omega),List.drop_drop]
       rw[e1,e2,e3]
       simp[List.append_assoc]
      rw[this] at hs
      exact hs
     ·cases h
    ·cases h
   ·cases h
 |unit =>
  intro x off y z cs cy h hr hy
  simp only[Ty.upd] at h
  split at h
  ·rename_i c
   simp at c
   cases h
   obtain⟨e1,e2,e3⟩:=c
   subst e1
   have hlen:=RT.length _ _ _ hr
   refine⟨?_,e3,by omega⟩
   rw[List.take_zero,List.nil_append,Nat.zero_add,List.drop_of_length_le (by omega),List.append_nil]
   exact hy
  ·cases h
 |int k =>
  intro x off y z cs cy h hr hy
  simp only[Ty.upd] at h
  split at h
  ·rename_i c
   simp at c
   cases h
   obtain⟨e1,e2,e3⟩:=c
   subst e1
   have hlen:=RT.length _ _ _ hr
   refine⟨?_,e3,by omega⟩
   rw[List.take_zero,List.nil_append,Nat.zero_add,List.drop_of_length_le (by omega),List.append_nil]
   exact hy
  ·cases h
 |bool =>
  intro x off y z cs cy h hr hy
  simp only[Ty.upd] at h
  split at h
  ·rename_i c
   simp at c
   cases h
   obtain⟨e1,e2,e3⟩:=c
   subst e1
   have hlen:=RT.length _ _ _ hr
   refine⟨?_,e3,by omega⟩
   rw[List.take_zero,List.nil_append,Nat.zero_add,List.drop_of_length_le (by omega),List.append_nil]
   exact hy
  ·cases h
 |str =>
  intro x off y z cs cy h hr hy
  simp only[Ty.upd] at h
  split at h
  ·rename_i c
   simp at c
   cases h
   obtain⟨e1,e2,e3⟩:=c
   subst e1
   have hlen:=RT.length _ _ _ hr
   refine⟨?_,e3,by omega⟩
   rw[List.take_zero,List.nil_append,Nat.zero_add,List.drop_of_length_le (by omega),List.append_nil]
   exact hy
  ·cases h
 |func =>
  intro x off y z cs cy h hr hy
  simp only[Ty.upd] at h
  split at h
  ·rename_i c
   simp at c
   cases h
   obtain⟨e1,e2,e3⟩:=c
   subst e1
   have hlen:=RT.length _ _ _ hr
   refine⟨?_,e3,by omega⟩
   rw[List.take_zero,List.nil_append,Nat.zero_add,List.drop_of_length_le (by omega),List.append_nil]
   exact hy
  ·cases h
 |sl e _ =>
  intro x off y z cs cy h hr hy
  simp only[Ty.upd] at h
  split at h
  ·rename_i c
   simp at c
   cases h
   obtain⟨e1,e2,e3⟩:=c
   subst e1
   have hlen:=RT.length _ _ _ hr
   refine⟨?_,e3,by omega⟩
   rw[List.take_zero,List.nil_append,Nat.zero_add,List.drop_of_length_le (by omega),List.append_nil]
   exact hy
  ·cases h
theorem Sh.upd_RS:∀(s:Sh) (x:s.den) (off:Nat) (y z:AV) (cs cy:List Value),Sh.upd s x off y=some z→RS w K s x cs→RS w K y.sh y.v cy →
  RS w K z.sh z.v (cs.take off++cy++cs.drop (off+y.sh.size))∧z.sh.agg=s.agg∧off+y.sh.size≤s.size:=by
 intro s
 induction s with
 |ty t=>intro x off y z cs cy h hr hy;exact Ty.upd_RT t x off y z cs cy h hr hy
 |pair a b iha ihb =>
  intro x off y z cs cy h hr hy
  obtain⟨c1,c2,e,h1,h2⟩:=hr
  have l1:=RS.length a _ _ h1
  have l2:=RS.length b _ _ h2
  have ly:=RS.length _ _ _ hy
  subst e
  simp only[Sh.upd] at h
  split at h
  ·rename_i e
   simp at e
   cases h
   obtain⟨e1,e2,e3,_⟩:=e
   subst e1
   refine⟨?_,e3,by simp[Sh.size,e2]⟩
   rw[List.take_zero,List.nil_append,Nat.zero_add,List.drop_of_length_le (by simp[l1,l2,e2]),List.append_nil]
   exact hy
  ·split at h
   ·rename_i e hlt
    split at h
    ·rename_i z' hz
     cases h
     obtain⟨i1,i2,i3⟩:=iha _ _ _ _ _ _ hz h1 hy
     refine⟨?_,mkPair_agg _ _,by simp only[Sh.size];omega⟩
     have:=mkPair_RS (b:=⟨b,x.2⟩) i1 h2
     rw[List.take_append_of_le_length (by omega),List.drop_append_of_le_length (by omega),←List.append_assoc]
     exact this
    ·cases h
   ·rename_i e hge
    split at h
    ·rename_i z' hz
     cases h
     obtain⟨i1,i2,i3⟩:=ihb _ _ _ _ _ _ hz h2 hy
     refine⟨?_,mkPair_agg _ _,by simp only[Sh.size];omega⟩
     have:=mkPair_RS (a:=⟨a,x.1⟩) h1 i1
     rw[List.take_append,List.drop_append,List.take_of_length_le (by omega),l1,List.drop_of_length_le (show c1.length≤off+y.sh.size by omega),List.nil_append,
      show off+y.sh.size-a.size=off-a.size+y.sh.size by omega]
     simpa [List.append_assoc] using this
    ·cases h
 |tup a _ =>
  intro x off y z cs cy h hr hy
  simp only[Sh.upd] at h
  cases h
 |top =>
  intro x off y z cs cy h hr hy
  simp only[Sh.upd] at h
  cases h
 |osl id e =>
  intro x off y z cs cy h hr hy
  simp only[Sh.upd] at h
  split at h
  ·rename_i c
   simp at c
   cases h
   obtain⟨e1,e2,e3⟩:=c
   subst e1
   have hlen:=RS.length _ _ _ hr
   refine⟨?_,e3,by omega⟩
   rw[List.take_zero,List.nil_append,Nat.zero_add,List.drop_of_length_le (by omega),List.append_nil]
   exact hy
  ·cases h
 |box id o =>
  intro x off y z cs cy h hr hy
  simp only[Sh.upd] at h
  split at h
  ·rename_i c
   simp at c
   cases h
   obtain⟨e1,e2,e3⟩:=c
   subst e1
   have hlen:=RS.length _ _ _ hr
   refine⟨?_,e3,by omega⟩
   rw[List.take_zero,List.nil_append,Nat.zero_add,List.drop_of_length_le (by omega),List.append_nil]
   exact hy
  ·cases h
 |boxi id o m e =>
  intro x off y z cs cy h hr hy
  simp only[Sh.upd] at h
  split at h
  ·rename_i c
   simp at c
   cases h
   obtain⟨e1,e2,e3⟩:=c
   subst e1
   have hlen:=RS.length _ _ _ hr
   refine⟨?_,e3,by omega⟩
   rw[List.take_zero,List.nil_append,Nat.zero_add,List.drop_of_length_le (by omega),List.append_nil]
   exact hy
  ·cases h
 |win id e =>
  intro x off y z cs cy h hr hy
  simp only[Sh.upd] at h
  split at h
  ·rename_i c
   simp at c
   cases h
   obtain⟨e1,e2,e3⟩:=c
   subst e1
   have hlen:=RS.length _ _ _ hr
   refine⟨?_,e3,by omega⟩
   rw[List.take_zero,List.nil_append,Nat.zero_add,List.drop_of_length_le (by omega),List.append_nil]
   exact hy
  ·cases h
 |elp id e o =>
  intro x off y z cs cy h hr hy
  simp only[Sh.upd] at h
  split at h
  ·rename_i c
   simp at c
   cases h
   obtain⟨e1,e2,e3⟩:=c
   subst e1
   have hlen:=RS.length _ _ _ hr
   refine⟨?_,e3,by omega⟩
   rw[List.take_zero,List.nil_append,Nat.zero_add,List.drop_of_length_le (by omega),List.append_nil]
   exact hy
  ·cases h
 |mp id =>
  intro x off y z cs cy h hr hy
  simp only[Sh.upd] at h
  split at h
  ·rename_i c
   simp at c
   cases h
   obtain⟨e1,e2,e3⟩:=c
   subst e1
   have hlen:=RS.length _ _ _ hr
   refine⟨?_,e3,by omega⟩
   rw[List.take_zero,List.nil_append,Nat.zero_add,List.drop_of_length_le (by omega),List.append_nil]
   exact hy
  ·cases h
 |tsl T id =>
  intro x off y z cs cy h hr hy
  simp only[Sh.upd] at h
  split at h
  ·rename_i c
   simp at c
   cases h
   obtain⟨e1,e2,e3⟩:=c
   subst e1
   have hlen:=RS.length _ _ _ hr
   refine⟨?_,e3,by omega⟩
   rw[List.take_zero,List.nil_append,Nat.zero_add,List.drop_of_length_le (by omega),List.append_nil]
   exact hy
  ·cases h
 |nbox id =>
  intro x off y z cs cy h hr hy
  simp only[Sh.upd] at h
  split at h
  ·rename_i c
   simp at c
   cases h
   obtain⟨e1,e2,e3⟩:=c
   subst e1
   have hlen:=RS.length _ _ _ hr
   refine⟨?_,e3,by omega⟩
   rw[List.take_zero,List.nil_append,Nat.zero_add,List.drop_of_length_le (by omega),List.append_nil]
   exact hy
  ·cases h
 |wsl tg id e =>
  intro x off y z cs cy h hr hy
  simp only[Sh.upd] at h
  split at h
  ·rename_i c
   simp at c
   cases h
   obtain⟨e1,e2,e3⟩:=c
   subst e1
   have hlen:=RS.length _ _ _ hr
   refine⟨?_,e3,by omega⟩
   rw[List.take_zero,List.nil_append,Nat.zero_add,List.drop_of_length_le (by omega),List.append_nil]
   exact hy
  ·cases h
 |wref id e =>
  intro x off y z cs cy h hr hy
  simp only[Sh.upd] at h
  split at h
  ·rename_i c
   simp at c
   cases h
   obtain⟨e1,e2,e3⟩:=c
   subst e1
   have hlen:=RS.length _ _ _ hr
   refine⟨?_,e3,by omega⟩
   rw[List.take_zero,List.nil_append,Nat.zero_add,List.drop_of_length_le (by omega),List.append_nil]
   exact hy
  ·cases h
 |rowc=>intro x off y z cs cy h;cases h
 |mapc=>intro x off y z cs cy h;cases h
 |tyc T s ih =>
  intro x off y z cs cy h hr hy
  simp only[Sh.upd] at h
  split at h
  ·rename_i z' hz
   cases h
   exact ih x off y z' cs cy hz hr hy
  ·cases h
 |ref t o =>
  intro x off y z cs cy h hr hy
  simp only[Sh.upd] at h
  split at h
  ·rename_i c
   simp at c
   cases h
   obtain⟨e1,e2,e3⟩:=c
   subst e1
   have hlen:=RS.length _ _ _ hr
   refine⟨?_,e3,by omega⟩
   rw[List.take_zero,List.nil_append,Nat.zero_add,List.drop_of_length_le (by omega),List.append_nil]
   exact hy
  ·cases h
 |fn f c _ =>
  intro x off y z cs cy h hr hy
  simp only[Sh.upd] at h
  split at h
  ·rename_i c
   simp at c
   cases h
   obtain⟨e1,e2,e3⟩:=c
   subst e1
   have hlen:=RS.length _ _ _ hr
   refine⟨?_,e3,by omega⟩
   rw[List.take_zero,List.nil_append,Nat.zero_add,List.drop_of_length_le (by omega),List.append_nil]
   exact hy
  ·cases h
 |lit v =>
  intro x off y z cs cy h hr hy
  simp only[Sh.upd] at h
  split at h
  ·rename_i c
   simp at c
   cases h
   obtain⟨e1,e2,e3⟩:=c
   subst e1
   have hlen:=RS.length _ _ _ hr
   refine⟨?_,e3,by omega⟩
   rw[List.take_zero,List.nil_append,Nat.zero_add,List.drop_of_length_le (by omega),List.append_nil]
   exact hy
  ·cases h
end
end Go.Av
end
section
namespace Go.Av
open Go
def look {α:Type} (k:Nat):List (Nat×α)→Option α
 |[]=>none
 |(j,v)::l=>if k==j then some v else if Nat.blt k j then none else look k l
def put {α:Type} (k:Nat) (v:α):List (Nat×α)→List (Nat×α)
 |[]=>[(k,v)]
 |(j,u)::l=>if k==j then(k,v)::l else if Nat.blt k j then(k,v)::(j,u)::l else(j,u)::put k v l
def mapV {α:Type} (f:α→α):List (Nat×α)→List (Nat×α)
 |[]=>[]
 |(j,u)::l=>(j,f u)::mapV f l
structure St where
 ents:List (Nat×AV)
 heap:List (Nat×AV)
 next:Nat
def St.get (s:St) (t:Nat):AV:=(look t s.ents).getD .top
def St.set (s:St) (t:Nat) (a:AV):St:={s with ents:=put t a s.ents}
def St.setO (s:St) (t:Option Nat) (a:AV):St :=
 match t with
 |some t=>s.set t a
 |none=>s
inductive Eff where
 |val (a:AV)
 |new (id:Nat) (c a:AV)
 |put (id:Nat) (c:AV)
 |app (id:Nat) (a:AV)
def strike (id:Nat) (j:Nat):Option Nat:=if id==j then none else some j
def St.apply (s:St) (dst:Option Nat):Eff→St
 | .val a=>s.setO dst a
 | .new id c a=>{s.setO dst a with heap:=Av.put id c s.heap}
 | .put id c=>{s.setO dst .top with heap:=Av.put id c s.heap}
 | .app id a=>{ents:=mapV (·.ren (strike id) some) s.ents,heap:=mapV (·.ren (strike id) some) s.heap,next:=s.next:St}.setO dst a
def constAV:Value→AV
 | .int k n=>.int k n
 | .bool b=>.bool b
 | .string b=>.str b.data.toList
 |v=>if v.oneCell' then .lit v else .top
def opnd (s:St):Operand→AV
 | .tmp t=>s.get t
 | .const v=>constAV v
 | .global _=>.top
 | .func f=>⟨.fn f (.ty .unit),()⟩
def tyOf (P:Program):Nat→TypeId→Option Ty
 |0,_=>none
 |d+1,t=>match P.underlying t with
  |some (.int k)=>some (.int k)
  |some .bool=>some .bool
  |some .string=>some .str
  |some (.func ..)=>some .func
  |some (.slice e)=>(tyOf P d e).map .sl
  |some (.array n e)=>(tyOf P d e).map (.arr n)
  |some (.struct fs)=>fields (tyOf P d) fs.toList
  |_=>none
where
 fields (f:TypeId→Option Ty):List Field→Option Ty
  |[]=>some .unit
  |x::l=>match f x.type,fields f l with
   |some a,some b=>some (.pair a b)
   |_,_=>none
def tyDepth:Nat:=12
def zeroAV (P:Program):Nat→TypeId→List Value→Nat→Option (AV×Nat)
 |0,_,_,_=>none
 |d+1,t,cs,tag=>match P.underlying t with
  |some (.struct fs)=>fields (zeroAV P d) fs.toList cs tag
  |some (.array n e)=>match tyOf P d e with
   |some τ=>(elems (fun c=>(zeroAV P d e c 0).bind fun x=>x.1.as τ) (P.cellsOf e) n cs).map fun xs=>(⟨.ty (.arr n τ),xs⟩,tag)
   |none=>none
  |some (.slice e)=>match cs with
   |[v]=>if nilSl v then(match tyOf P d e with
    |some τ=>some (⟨.osl tag τ,[]⟩,tag+1)
    |none=>some (.lit v,tag)) else none
   |_=>none
  |_=>match cs with
   |[v]=>if v.oneCell' then some (constAV v,tag) else none
   |_=>none
where
 fields (f:TypeId→List Value→Nat→Option (AV×Nat)):List Field→List Value→Nat→Option (AV×Nat)
  |[],[],tag=>some (.unit,tag)
  |[],_::_,_=>none
  |x::l,cs,tag=>match f x.type (cs.take (P.cellsOf x.type)) tag with
   |some (a,tag)=>(match fields f l (cs.drop (P.cellsOf x.type)) tag with
    |some (b,tag)=>some (AV.mkPair a b,tag)
    |none=>none)
   |none=>none
 elems {α:Type} (f:List Value→Option α) (size:Nat):Nat→List Value→Option (List α)
  |0,[]=>some []
  |0,_::_=>none
  |n+1,cs=>match f (cs.take size),elems f size n (cs.drop size) with
   |some a,some l=>some (a::l)
   |_,_=>none
def zeroOf (P:Program) (t:TypeId) (tag:Nat):Option AV :=
 match (P.info? t).bind (·.zero) with
 |some z=>(zeroAV P tyDepth t z.cells.toList tag).map (·.1)
 |none=>none
def zeroTy (P:Program) (t:TypeId):Option AV :=
 match zeroOf P t 0 with
 |some z=>some (z.ren (fun _=>none) some)
 |none=>none
def band (k:IntKind) (a b:Int):Int:=k.wrap (BitVec.ofInt k.bits a &&& BitVec.ofInt k.bits b).toNat
def bor (k:IntKind) (a b:Int):Int:=k.wrap (BitVec.ofInt k.bits a |||BitVec.ofInt k.bits b).toNat
def bxor (k:IntKind) (a b:Int):Int:=k.wrap (BitVec.ofInt k.bits a ^^^ BitVec.ofInt k.bits b).toNat
def bnot (k:IntKind) (a b:Int):Int:=k.wrap (BitVec.ofInt k.bits a &&& ~~~(BitVec.ofInt k.bits b)).toNat
def ishl (k:IntKind) (a b:Int):Int:=k.wrap (a*2 ^ min b.toNat k.bits)
def ishr (k:IntKind) (a b:Int):Int:=a.fdiv (2 ^ min b.toNat k.bits)
def icompl (k:IntKind) (a:Int):Int:=bxor k (if k.signed then -1 else k.max) a
abbrev Res (α:Type):=Option (Bool×α)
@[reducible] def yes {α:Type} (a:α):Res α:=some (true,a)
def intOp (op:BinOp) (k:IntKind) (a:Int) (k':IntKind) (b:Int):Res AV :=
 match op with
 | .shl=>some (!decide (b<0),.int k (ishl k a b))
 | .shr=>some (!decide (b<0),.int k (ishr k a b))
 |op=>if k=k' then(match op with
  | .add=>yes (.int k (k.wrap (a+b)))
  | .sub=>yes (.int k (k.wrap (a-b)))
  | .mul=>yes (.int k (k.wrap (a*b)))
  | .quo=>some (!decide (b=0),.int k (k.wrap (a.tdiv b)))
  | .rem=>some (!decide (b=0),.int k (a.tmod b))
  | .and=>yes (.int k (band k a b))
  | .or=>yes (.int k (bor k a b))
  | .xor=>yes (.int k (bxor k a b))
  | .andNot=>yes (.int k (bnot k a b))
  | .eql=>yes (.bool (a==b))
  | .neq=>yes (.bool (a != b))
  | .lss=>yes (.bool (decide (a<b)))
  | .leq=>yes (.bool (decide (a≤b)))
  | .gtr=>yes (.bool (decide (a > b)))
  | .geq=>yes (.bool (decide (a≥b)))
  |_=>none) else none
def strOp (op:BinOp) (a b:List UInt8):Res AV :=
 match op with
 | .add=>some (Nat.ble (a.length+b.length) 9223372036854775807,.str (a++b))
 | .eql=>yes (.bool (a==b))
 | .neq=>yes (.bool !(a==b))
 | .lss=>yes (.bool (Op.bytesLess a b))
 |_=>none
def isStruct (P:Program) (t:TypeId):Bool :=
 match P.underlying t with
 |some (.struct _) |some (.array _ _)=>true
 |_=>false
def known (P:Program) (t:TypeId):Bool:=(P.underlying t).isSome
def eqTy (P:Program):Nat→TypeId→Ty→Bool
 |0,_,_=>false
 |d+1,t,τ=>match P.underlying t,τ with
  |some (.int _),.int _=>true
  |some .bool,.bool=>true
  |some .string,.str=>true
  |some (.struct fs),τ=>!P.stoodInHeld t&&fields (eqTy P d) fs.toList 0 τ
  |some (.array n e),.arr m τ=>n==m&&(eqTy P d e τ&&(P.cellsOf e==τ.size&&(isStruct P e==τ.agg&&known P e)))
  |_,_=>false
where
 fields (f:TypeId→Ty→Bool):List Field→Nat→Ty→Bool
  |[],_,.unit=>true
  | x :: l, off, .pair a b => x.name != "_" && (x.offset == off && (f x.type a && (P.cellsOf x.type == a.size && (isStruct P x.type == a.agg && (known P x.type && fields f l (off + a.size) b)))))
  |_,_,_=>false
def eqOk (P:Program) (t:TypeId):Bool :=
 !P.eqGuardType P.depth t&&match tyOf P tyDepth t with
  |some τ=>eqTy P tyDepth t τ&&τ.agg
  |none=>false
def eqOp (P:Program) (eqs:List TypeId) (t:TypeId) (x y:AV):Option Bool :=
 match x,y with
 |⟨.ty .bool,a⟩,⟨.ty .bool,b⟩=>if P.underlying t matches some .bool then some ((a:Bool)==b) else none
 |⟨.box ..,_⟩,⟨.lit (.pointer none),_⟩=>if P.underlying t matches some (.pointer _) then some false else none
 |⟨.lit (.pointer none),_⟩,⟨.box ..,_⟩=>if P.underlying t matches some (.pointer _) then some false else none
 |⟨.lit (.pointer none),_⟩,⟨.lit (.pointer none),_⟩=>if P.underlying t matches some (.pointer _) then some true else none
 |⟨.ref ..,_⟩,⟨.lit (.pointer none),_⟩=>if P.underlying t matches some (.pointer _) then some false else none
 |x,y=>if eqs.contains t then(match tyOf P tyDepth t with
  |some τ=>(match x.as τ,y.as τ with
   |some a,some b=>some (Ty.eqb τ a b)
   |_,_=>none)
  |none=>none) else none
def binAV (P:Program) (eqs:List TypeId) (op:BinOp) (t:TypeId) (x y:AV):Res AV :=
 match x,y with
 |⟨.ty (.int k),a⟩,⟨.ty (.int k'),b⟩=>intOp op k a k' b
 |⟨.ty .str,a⟩,⟨.ty .str,b⟩=>strOp op a b
 |x,y=>match op with
  | .eql=>(eqOp P eqs t x y).map fun b=>(true,.bool b)
  | .neq=>(eqOp P eqs t x y).map fun b=>(true,.bool !b)
  |_=>none
def unAV (op:UnOp) (x:AV):Option AV :=
 match op,x with
 | .neg,⟨.ty (.int k),a⟩=>some (.int k (k.wrap (0-a)))
 | .xor,⟨.ty (.int k),a⟩=>some (.int k (icompl k a))
 | .not,⟨.ty .bool,b⟩=>some (.bool !b)
 |_,_=>none
def toByte (n:Int):UInt8:=UInt8.ofNat n.toNat
def isBytes (P:Program) (e:TypeId):Bool :=
 match P.underlying e with
 |some (.int .u8)=>true
 |_=>false
def bytesAV:AV→Option (List Int)
 |⟨.ty (.sl (.int .u8)),xs⟩=>some xs
 |⟨.osl _ (.int .u8),xs⟩=>some xs
 |_=>none
def convAV (P:Program) (src dst:TypeId) (x:AV):Option AV :=
 match P.underlying src,P.underlying dst,x with
 |some _,some (.int k),⟨.ty (.int _),a⟩=>some (.int k (k.wrap a))
 |some _,some .string,⟨.ty .str,a⟩=>some (.str a)
 |some (.slice e),some .string,x=>if isBytes P e then(bytesAV x).map fun xs=>.str (xs.map toByte) else none
 |_,_,_=>none
def imin (a b:Int):Int:=bif decide (b<a) then b else a
def imax (a b:Int):Int:=bif decide (b > a) then b else a
def foldInt (f:Int→Int→Int) (k:IntKind):Int→List AV→Option Int
 |a,[]=>some a
 |a,⟨.ty (.int k'),b⟩::l=>if k=k' then foldInt f k (f a b) l else none
 |_,_=>none
def extreme (f:Int→Int→Int) (l:List AV):Option AV :=
 match l with
 |⟨.ty (.int k),a⟩::l=>(foldInt f k a l).map (.int k)
 |_=>none
def inRange (i:Int) (n:Nat):Bool:=decide (0≤i)&&decide (i<n)
def asSl:AV→Option ((e:Ty)×List e.den)
 |⟨.ty (.sl e),x⟩=>some ⟨e,x⟩
 |⟨.osl _ e,x⟩=>some ⟨e,x⟩
 |_=>none
def natOf:AV→Option Int
 |⟨.ty (.int _),n⟩=>some n
 |_=>none
def sliceAV (x:AV) (lo hi:Option AV):Res AV :=
 match x with
 |⟨.ty .str,s⟩=>match lo.elim (some (0:Int)) natOf,hi.elim (some ((List.length s:Nat):Int)) natOf with
  |some l,some h=>some (decide (0≤h)&&decide (h≤(List.length s:Nat))&&decide (0≤l)&&decide (l≤h),.str ((List.take h.toNat s).drop l.toNat))
  |_,_=>none
 |⟨.osl id e,s⟩=>match hi with
  |none=>match lo.elim (some (0:Int)) natOf with
   |some l=>some (inRange l (List.length s+1),⟨.osl id e,List.drop l.toNat s⟩)
   |none=>none
  |some hi=>match lo.elim (some (0:Int)) natOf,natOf hi with
   |some l,some h=>some (decide (0≤h)&&decide (h≤(List.length s:Nat))&&decide (0≤l)&&decide (l≤h),⟨.ty (.sl e),(List.take h.toNat s).drop l.toNat⟩)
   |_,_=>none
 |⟨.ty (.sl e),s⟩=>match lo.elim (some (0:Int)) natOf,hi.elim (some ((List.length s:Nat):Int)) natOf with
  |some l,some h=>some (decide (0≤h)&&decide (h≤(List.length s:Nat))&&decide (0≤l)&&decide (l≤h),⟨.ty (.sl e),(List.take h.toNat s).drop l.toNat⟩)
  |_,_=>none
 |_=>none
def mkV (g:Bool) (cs:List Value):Value:=if g then .agg cs.toArray else cs.headD undef
def nplus (a:Nat) (n:Int):Nat:=a+n.toNat
def nspan (l h:Int):Nat:=h.toNat-l.toNat
def zeros {α:Type} (c:Int) (z:α):List α:=List.replicate c.toNat z
def mend {α:Type} (xs:List α) (off:Nat) (ys:List α) (n:Nat):List α:=xs.take off++ys.take n++xs.drop (off+min ys.length n)
def wroom (xs ys:List (Nat×Nat)) (b:Nat):Bool:=Nat.ble ((xs.length+ys.length)*b) 140737488355328
def wapp (xs ys:List (Nat×Nat)):List (Nat×Nat):=xs++ys
def wAt (l:List (Nat×Nat)) (n:Int):Nat×Nat:=List.getD l n.toNat (0,0)
def shown {α:Type} (xs:List α) (y:Nat×Nat):List α:=(xs.drop y.1).take y.2
def rowsOf {α:Type} (xs:List α) (ws:List (Nat×Nat)):List (List α):=ws.map (shown xs)
def sliceWin (id:Nat) (e:Ty) (y:Nat×Nat) (lo hi:Option AV):Res AV :=
 match lo.elim (some (0:Int)) natOf,hi.elim (some ((y.2:Nat):Int)) natOf with
 |some l,some h=>some (decide (0≤h)&&decide (h≤(y.2:Nat))&&decide (0≤l)&&decide (l≤h),⟨.win id e,(nplus y.1 l,nspan l h)⟩)
 |_,_=>none
def mget (m:List (Int×Int)) (k:Int):Option Int :=
 match m with
 |[]=>none
 |(j,v)::m=>bif k==j then some v else mget m k
def mput (m:List (Int×Int)) (k v:Int):List (Int×Int) :=
 match m with
 |[]=>[(k,v)]
 |(j,u)::m=>bif k==j then(k,v)::m else(j,u)::mput m k v
def mapTy (P:Program) (t:TypeId):Bool :=
 match P.underlying t with
 |some (.map kt et)=>(match P.underlying kt with
  |some (.int .i64)=>true
  |_=>false)&&(match (P.info? et).bind (·.zero) with
  |some (.int .i64 z)=>z==0
  |_=>false)
 |_=>false
def mval (l:List (Int×Int)) (k:Int):Int:=(mget l k).getD 0
def mhas (l:List (Int×Int)) (k:Int):Bool:=(mget l k).isSome
def lookAV (l:List (Int×Int)) (k:Int) (ok:Bool):AV :=
 if ok then⟨.tup (.pair (.ty (.int .i64)) (.pair (.ty .bool) (.ty .unit))),(mval l k,mhas l k,())⟩ else .int .i64 (mval l k)
def roomOk (c:Int) (bytes:Nat):Bool:=decide (0≤c)&&decide (c*bytes≤281474976710656)&&decide (c≤9223372036854775807)
structure Lim where
 rd:Nat→Nat→Bool
 wr:Nat→Nat→Bool
def wrOk (f:Nat→Bool) (a:AV):Bool :=
 match a with
 |⟨.box id _,_⟩=>f id
 |⟨.boxi id _ _ _,_⟩=>f id
 |⟨.elp id _ _,_⟩=>f id
 |_=>true
def heapAt (s:St) (no:Nat→Bool) (id:Nat):Option AV:=if no id then none else look id s.heap
def loadAV (P:Program) (s:St) (no:Nat→Bool) (t:TypeId) (a:AV):Option AV :=
 match a with
 |⟨.box id off,_⟩=>match heapAt s no id with
  |some c=>c.sub off (P.cellsOf t) (isStruct P t)
  |none=>none
 |⟨.ref τ off,x⟩=>AV.sub ⟨.ty τ,x⟩ off (P.cellsOf t) (isStruct P t)
 |⟨.boxi id off n e,i⟩=>match heapAt s no id with
  |some c=>match c.sub off (n*e.size) true with
   |some ⟨.ty (.arr m e'),xs⟩=>(match Ty.dec e e' with
    |isTrue h=>if m=n∧P.cellsOf t=e.size∧isStruct P t=e.agg then some ⟨.ty e,(h▸xs:List e.den).getD i e.dflt⟩ else none
    |isFalse _=>none)
   |_=>none
  |none=>none
 |⟨.elp id e o,i⟩=>match heapAt s no id with
  |some ⟨.rowc e',xs⟩=>(match Ty.dec e' e with
   |isTrue h=>if 0<e.size then Ty.sub e ((h▸xs:List e.den).getD i e.dflt) o (P.cellsOf t) (isStruct P t) else none
   |isFalse _=>none)
  |_=>none
 |⟨.wref id e,y⟩=>if P.cellsOf t=1∧isStruct P t=false then some ⟨.win id e,y⟩ else none
 |_=>none
def AV.solid (a:AV):Bool :=
 match a.sh with
 | .top | .tup _ | .tyc ..=>false
 |_=>true
def newOf (t:TypeId) (z:AV):Option Value→AV
 |some (.agg ⟨[.pointer none,.slice none 0 0]⟩)=>⟨.tyc t (.pair (.lit (.pointer none)) (.pair (.lit (.slice none 0 0)) (.ty .unit))),((),(),())⟩
 |_=>z
def storeAV (P:Program) (s:St) (t:TypeId) (a v:AV):Option Eff :=
 match a with
 |⟨.box id off,_⟩=>match look id s.heap with
  |some c=>if v.sh.size=P.cellsOf t∧v.solid then(c.upd off v).map (.put id) else none
  |none=>none
 |⟨.boxi id off n e,i⟩=>match look id s.heap with
  |some c=>match c.sub off (n*e.size) true with
   |some ⟨.ty (.arr m e'),xs⟩=>(match Ty.dec e e',v.as e with
    |isTrue h,some u=>if m=n∧P.cellsOf t=e.size then(c.upd off ⟨.ty (.arr m e),(h▸xs:List e.den).set i u⟩).map (.put id) else none
    |_,_=>none)
   |_=>none
  |none=>none
 |⟨.elp id e o,i⟩=>match look id s.heap with
  |some ⟨.rowc e',xs⟩=>(match Ty.dec e' e with
   |isTrue h=>if v.sh.size=P.cellsOf t∧v.solid∧0<e.size then((Ty.upd e ((h▸xs:List e.den).getD i e.dflt) o v).bind fun z=>z.as e).map fun u=>.put id ⟨.rowc e,(h▸xs:List e.den).set i u⟩ else none
   |isFalse _=>none)
  |_=>none
 |_=>none
def fieldOf (P:Program) (t:TypeId) (f:Nat):Option Field :=
 match P.underlying t with
 |some (.struct fs)=>fs[f]?
 |_=>none
def partsAV (place:Nat→Option (Nat×Nat)) (s:St):AV→List (Nat×Operand)→Option AV
 |z,[]=>some z
 |z,(i,x)::l=>match place i with
  |some (o,size)=>if(opnd s x).solid&&(opnd s x).sh.size==size then(match z.upd o (opnd s x) with
   |some z=>partsAV place s z l
   |none=>none) else none
  |none=>none
def places (P:Program) (fs:List Field):Option (List (Nat×Nat)) :=
 fs.mapM (fun f=>(P.info? f.type).map fun i=>(f.offset,i.size))
def partsSl (e:Ty) (s:St):List e.den→List (Nat×Operand)→Option (List e.den)
 |z,[]=>some z
 |z,(i,x)::l=>match (opnd s x).as e with
  |some u=>if i<z.length then partsSl e s (z.set i u) l else none
  |none=>none
def pack:List AV→AV
 |[]=>.unit
 |a::l=>AV.mkPair a (pack l)
def single (a:AV):Bool:=a.sh.agg==false&&a.solid
def wslOf (b:Nat) (τ:Ty) (a:AV):Option (Nat×List (Nat×Nat)) :=
 match a with
 |⟨.wsl (some tg) b' τ',xs⟩=>if b'=b then(match Ty.dec τ' τ with
  |isTrue _=>some (tg,xs)
  |isFalse _=>none) else none
 |⟨.osl tg (.sl _),xs⟩=>(match xs with
  |[]=>some (tg,[])
  |_=>none)
 |_=>none
def wslArgs (x y:AV):Option (Nat×((b:Nat) ×' (τ:Ty) ×' (_:List (Nat×Nat)) ×' List (Nat×Nat))) :=
 match y with
 |⟨.wsl _ b τ,ys⟩=>(match wslOf b τ x with
  |some (tg,xs)=>some (tg,⟨b,τ,xs,ys⟩)
  |none=>none)
 |_=>none
def winPart (s:St) (l:List (Nat×Operand)):Option (Nat×Ty×(Nat×Nat)) :=
 match l with
 |[(0,x)]=>(match opnd s x with
  |⟨.win b e,y⟩=>some (b,e,y)
  |_=>none)
 |_=>none
def ownNil (P:Program) (e:TypeId) (id:Nat) (a:AV):AV :=
 match a with
 |⟨.lit v,u⟩=>(match tyOf P tyDepth e with
  |some τ=>if nilSl v then⟨.osl id τ,[]⟩ else⟨.lit v,u⟩
  |none=>⟨.lit v,u⟩)
 |a=>a
def opE (P:Program) (eqs:List TypeId) (s:St) (no:Lim) (id:Nat) (o:Oper):Res Eff :=
 match o.op with
 | .move x | .assign x=>match x with
  | .const v=>if nilSl v then(match P.underlying o.type with
   |some (.slice e)=>(match tyOf P tyDepth e with
    |some τ=>yes (.val ⟨.osl id τ,[]⟩)
    |none=>yes (.val (.lit v)))
   |_=>none) else yes (.val (constAV v))
  |x=>yes (.val (opnd s x))
 | .pick c a b=>match opnd s c with
  |⟨.ty .bool,c⟩=>yes (.val (bif c then opnd s a else opnd s b))
  |_=>none
 | .alloc t=>match zeroOf P t id with
  |some z=>if(look id s.heap).isNone&&z.sh.bare then yes (.new id (newOf t z ((P.info? t).bind (·.zero))) (.box id 0)) else none
  |none=>none
 | .box _ x=>if(look id s.heap).isNone&&(opnd s x).solid then yes (.new id (opnd s x) (.box id 0)) else none
 | .build t parts=>match zeroOf P t id,P.underlying t with
  |some z,some (.struct fs)=>(match places P fs.toList with
   |some pl=>(partsAV (pl.toArray[·]?) s z parts.toList).map fun v=>(true,.val v)
   |none=>none)
  |some z,some (.array _ e)=>if(P.info? e).isSome then(partsAV (fun i=>some (i*P.cellsOf e,P.cellsOf e)) s z parts.toList).map fun v=>(true,.val v) else none
  |_,_=>none
 | .buildSlice t len parts=>match P.underlying t with
  |some (.slice e)=>(match winPart s parts.toList with
   |some p=>(match P.info? e with
    |some i=>if len=1∧i.size=1∧i.zero.isSome=true then yes (.val ⟨.wsl none p.1 p.2.1,[p.2.2]⟩) else none
    |none=>none)
   |none=>(match tyOf P tyDepth e,zeroTy P e with
    |some τ,some z=>(match z.as τ with
     |some z=>if len*P.cellsOf e≤16777216∧0<P.cellsOf e∧P.cellsOf e=τ.size then(partsSl τ s (List.replicate len z) parts.toList).map fun v=>(true,.val ⟨.osl id τ,v⟩) else none
     |none=>none)
    |_,_=>none))
  |_=>none
 | .load t a=>if !known P t then none else(loadAV P s (no.rd id) t (opnd s a)).map fun v=>(true,.val v)
 | .store t a v=>if !known P t then none else(if wrOk (no.wr id) (opnd s a) then(storeAV P s t (opnd s a) (opnd s v)).map fun e=>(true,e) else none)
 | .nilCheck x=>match opnd s x with
  |⟨.box id off,v⟩=>yes (.val ⟨.box id off,v⟩)
  |⟨.ref t off,v⟩=>yes (.val ⟨.ref t off,v⟩)
  |⟨.boxi a b c d,v⟩=>yes (.val ⟨.boxi a b c d,v⟩)
  |⟨.elp a b c,v⟩=>yes (.val ⟨.elp a b c,v⟩)
  |⟨.wref a b,v⟩=>yes (.val ⟨.wref a b,v⟩)
  |_=>none
 | .binOp op t x y _=>(binAV P eqs op t (opnd s x) (opnd s y)).map fun r=>(r.1,.val r.2)
 | .unOp op _ x=>(unAV op (opnd s x)).map fun v=>(true,.val v)
 | .convert a b x=>(convAV P a b (opnd s x)).map fun v=>(true,.val v)
 | .makeFunc fn first caps=>match fn with
  | .func f=>if first.isEmpty&&(caps.toList.all fun c=>single (opnd s c)) then yes (.val ⟨.fn f (pack (caps.toList.map (opnd s))).sh,(pack (caps.toList.map (opnd s))).v⟩) else none
  |_=>none
 | .fieldAddr t x f=>match fieldOf P t f with
  |some fl=>if P.cellsOf fl.type=0∨!known P fl.type then none else(match opnd s x with
   |⟨.box id off,_⟩=>yes (.val (.box id (off+fl.offset)))
   |⟨.ref τ off,v⟩=>yes (.val ⟨.ref τ (off+fl.offset),v⟩)
   |⟨.elp id e o,v⟩=>yes (.val ⟨.elp id e (o+fl.offset),v⟩)
   |_=>none)
  |none=>none
 | .field t x f=>match fieldOf P t f with
  |some fl=>if !(known P fl.type&&((opnd s x).sh.agg&&(opnd s x).sh.bare)) then none else((opnd s x).sub fl.offset (P.cellsOf fl.type) (isStruct P fl.type)).map fun v=>(true,.val v)
  |none=>none
 | .indexAddr t x i=>match P.underlying t,natOf (opnd s i) with
  |some (.slice el),some n=>(match asSl (opnd s x) with
   |some ⟨e,xs⟩=>if P.cellsOf el=e.size∧0<e.size∧known P el then some (inRange n (List.length xs),.val ⟨.ref e 0,List.getD xs n.toNat e.dflt⟩) else none
   |none=>match opnd s x with
    |⟨.win id e,y⟩=>if P.cellsOf el=e.size∧0<e.size∧known P el then some (inRange n y.2,.val ⟨.elp id e 0,nplus y.1 n⟩) else none
    |⟨.wsl _ id e,ys⟩=>if P.cellsOf el=1∧known P el then some (inRange n (List.length (α:=Nat×Nat) ys),.val ⟨.wref id e,wAt ys n⟩) else none
    |_=>none)
  |some (.array k el),some n=>(match opnd s x,i with
   |⟨.box id off,_⟩,.const _=>if P.cellsOf el=0∨!known P el then none else some (inRange n k,.val (.box id (off+n.toNat*P.cellsOf el)))
   |⟨.box id off,_⟩,_=>(match tyOf P tyDepth el with
    |some e=>if P.cellsOf el=e.size∧known P el then some (inRange n k,.val ⟨.boxi id off k e,n.toNat⟩) else none
    |none=>none)
   |_,_=>none)
  |_,_=>none
 | .index t x i=>match P.underlying t,natOf (opnd s i),opnd s x with
  |some .string,some n,⟨.ty .str,xs⟩=>some (inRange n (List.length xs),.val (.int .u8 (List.getD xs n.toNat 0).toNat))
  |some (.array k el),some n,⟨.ty (.arr m e),xs⟩=>if k=m∧P.cellsOf el=e.size∧isStruct P el=e.agg∧known P el then some (inRange n k,.val ⟨.ty e,List.getD xs n.toNat e.dflt⟩) else none
  |_,_,_=>none
 | .slice t x lo hi mx=>if mx.isSome then none else(match P.underlying t with
  |some .string=>(match opnd s x with
   |⟨.ty .str,v⟩=>(sliceAV ⟨.ty .str,v⟩ (lo.map (opnd s)) (hi.map (opnd s))).map fun r=>(r.1,.val r.2)
   |_=>none)
  |some (.slice el)=>(match asSl (opnd s x) with
   |some ⟨e,_⟩=>if P.cellsOf el=e.size∧known P el then(sliceAV (opnd s x) (lo.map (opnd s)) (hi.map (opnd s))).map fun r=>(r.1,.val r.2) else none
   |none=>match opnd s x with
    |⟨.win id e,y⟩=>if P.cellsOf el=e.size∧known P el then(sliceWin id e y (lo.map (opnd s)) (hi.map (opnd s))).map fun r=>(r.1,.val r.2) else none
    |_=>none)
  |_=>none)
 | .makeSlice t len cap=>match P.underlying t,len,natOf (opnd s cap) with
  |some (.slice e),.const (.int .i64 0),some c=>(match tyOf P tyDepth e,zeroTy P e,P.info? e with
   |some τ,some _,some i=>if P.cellsOf e=τ.size then some (roomOk c i.bytes,.val ⟨.osl id τ,[]⟩) else none
   |_,_,_=>none)
  |_,_,_=>none
 | .lookup t x i ok=>match opnd s x,opnd s i with
  |⟨.mp b,_⟩,⟨.ty (.int .i64),k⟩=>(match heapAt s (no.rd id) b with
   |some ⟨.mapc,l⟩=>if mapTy P t then yes (.val (lookAV l k ok)) else none
   |_=>none)
  |_,_=>none
 | .mapUpdate t x i v=>match opnd s x,opnd s i,opnd s v with
  |⟨.mp b,_⟩,⟨.ty (.int .i64),k⟩,⟨.ty (.int .i64),v⟩=>(match look b s.heap with
   |some ⟨.mapc,l⟩=>if mapTy P t then yes (.put b ⟨.mapc,mput l k v⟩) else none
   |_=>none)
  |_,_,_=>none
 | .extract x n=>match opnd s x with
  |⟨.tup a,v⟩=>(nth n ⟨a,v⟩).map fun v=>(true,.val v)
  |_=>none
 | .call c=>match c.callee with
  | .builtin .len=>match c.argTypes.toList,c.args.toList with
   |[t],[x]=>(match P.underlying t,opnd s x with
    |some .string,⟨.ty .str,v⟩=>yes (.val (.int .i64 (List.length v:Nat)))
    |some (.slice _),⟨.ty (.sl _),v⟩=>yes (.val (.int .i64 (List.length v:Nat)))
    |some (.slice _),⟨.osl _ _,v⟩=>yes (.val (.int .i64 (List.length v:Nat)))
    |some (.slice _),⟨.win _ _,v⟩=>yes (.val (.int .i64 (v.2:Nat)))
    |some (.slice _),⟨.wsl _ _ _,v⟩=>yes (.val (.int .i64 (List.length (α:=Nat×Nat) v:Nat)))
    |some (.array n _),_=>yes (.val (.int .i64 (n:Nat)))
    |_,_=>none)
   |_,_=>none
  | .builtin .min=>(extreme imin (c.args.toList.map (opnd s))).map fun v=>(true,.val v)
  | .builtin .max=>(extreme imax (c.args.toList.map (opnd s))).map fun v=>(true,.val v)
  | .builtin .append=>match c.argTypes.toList,c.args.toList with
   |[t,t'],[x,y]=>if t=t' then(match P.underlying t with
    |some (.slice e)=>(match wslArgs (opnd s x) (opnd s y) with
     |some p=>(match P.info? e with
      |some i=>if i.size=1∧0<i.bytes∧(i.zero.map fun z=>z.cells.size)=some 1 then
        some (wroom p.2.2.2.1 p.2.2.2.2 i.bytes,.app p.1 ⟨.wsl (some p.1) p.2.1 p.2.2.1,wapp p.2.2.2.1 p.2.2.2.2⟩) else none
      |none=>none)
     |none=>(match ownNil P e id (opnd s x),P.info? e with
      |⟨.osl id τ,xs⟩,some i=>(match (opnd s y).as (.sl τ) with
       |some ys=>if i.size=τ.size∧0<τ.size∧0<i.bytes∧(i.zero.map fun z=>z.cells.size)=some τ.size then
         some (Nat.ble ((List.length xs+List.length ys)*i.bytes) 140737488355328,.app id ⟨.osl id τ,xs++ys⟩) else none
       |none=>none)
      |_,_=>none))
    |_=>none) else(match P.underlying t,P.underlying t' with
    |some (.slice e),some .string=>(match opnd s x,opnd s y,P.info? e with
     |⟨.osl id (.int .u8),xs⟩,⟨.ty .str,b⟩,some i=>if i.size=1∧0<i.bytes∧(i.zero.map fun z=>z.cells.size)=some 1 then
       some (Nat.ble ((List.length (α:=Int) xs+List.length (α:=UInt8) b)*i.bytes) 140737488355328,.app id ⟨.osl id (.int .u8),(xs:List Int)++List.map (fun b:UInt8=>(b.toNat:Int)) b⟩) else none
     |_,_,_=>none)
    |_,_=>none)
   |_,_=>none
  |_=>none
 |_=>none
where
 nth:Nat→AV→Option AV
  |0,a=>(a.split).map (·.1)
  |n+1,a=>(a.split).bind fun p=>nth n p.2
end Go.Av
end
section
namespace Go.Av
open Go
theorem look_put {α:Type} (k:Nat) (v:α) (m:Nat):∀l:List (Nat×α),look m (put k v l)=if m=k then some v else look m l
 |[]=>by
  by_cases h:m=k
  ·simp[put,look,h]
  ·simp[put,look,h]
 |(j,u)::l=>by
  have ih:=look_put k v m l
  by_cases hkj:k=j
  ·subst hkj
   by_cases h:m=k
   ·simp[put,look,h]
   ·simp[put,look,h]
  ·by_cases hlt:k<j
   ·by_cases h:m=k
    ·subst h
     simp[put,look,hkj,Nat.blt_eq,hlt]
    ·by_cases hmk:m<k
     ·have h1:m≠j:=by omega
      have h2:m<j:=by omega
      simp[put,look,hkj,Nat.blt_eq,hlt,h,hmk,h1,h2]
     ·simp[put,look,hkj,Nat.blt_eq,hlt,h,hmk]
   ·by_cases h:m=k
    ·subst h
     have h3:¬m<j:=hlt
     simp[put,look,hkj,Nat.blt_eq,h3,ih]
    ·simp[put,look,hkj,Nat.blt_eq,hlt,h,ih]
theorem look_mapV {α:Type} (f:α→α) (m:Nat):∀l:List (Nat×α),look m (mapV f l)=(look m l).map f
 |[]=>rfl
 |(j,u)::l=>by
  simp only[mapV,look,look_mapV f m l]
  split
  ·rfl
  ·split<;>rfl
structure Fr where
 w0:World
 K0:Kinds
 a0:Array Value
 T:Nat→Bool
 ds:List Deferred
structure Rel (fr:Fr) (n:Nat) (K:Kinds) (s:St) (a:Act) (w:World):Prop where
 ext:Ext fr.w0 fr.K0 w K
 size:a.tmps.size=n
 defers:a.defers=fr.ds
 ents:∀t av,look t s.ents=some av→RV w K av (a.tmps.getD t undef)
 frame:∀t,look t s.ents=none→fr.T t=false→a.tmps[t]?=fr.a0[t]?
 heap:∀b id,b<w.heap.size→K b=.box id→∃av o,look id s.heap=some av∧w.heap[b]?=some o∧BoxOk w K av.sh av.v o
 uniq:∀b b' id,b<w.heap.size→b' < w.heap.size→K b=.box id→K b'=.box id→b=b'
structure Still (w:World) (K:Kinds) (w':World) (K':Kinds):Prop where
 ext:Ext w K w' K'
 rows:∀b id u,b<w.heap.size→K b=.row id u→K' b=.row id u∧w'.heap[b]?=w.heap[b]?
 boxes:∀b id,b<w.heap.size→K b=.box id→w'.heap[b]?=w.heap[b]?
 fresh:∀b,b<w'.heap.size→∀id,K' b=.box id→b<w.heap.size∧K b=.box id
theorem Still.refl (w:World) (K:Kinds):Still w K w K:=⟨.refl w K,fun _ _ _ _ h=>⟨h,rfl⟩,fun _ _ _ _=>rfl,fun _ h _ h'=>⟨h,h'⟩⟩
theorem Still.trans {w w' w'':World} {K K' K'':Kinds} (h:Still w K w' K') (g:Still w' K' w'' K''):Still w K w'' K'' where
 ext:=h.ext.trans g.ext
 rows:=fun b id u hb hk=>by
  obtain⟨h1,h2⟩:=h.rows b id u hb hk
  obtain⟨g1,g2⟩:=g.rows b id u (Nat.lt_of_lt_of_le hb h.ext.size) h1
  exact⟨g1,g2.trans h2⟩
 boxes:=fun b id hb hk=>(g.boxes b id (Nat.lt_of_lt_of_le hb h.ext.size) (h.ext.box b id hb hk)).trans (h.boxes b id hb hk)
 fresh:=fun b hb id hk=>by
  obtain⟨g1,g2⟩:=g.fresh b hb id hk
  exact h.fresh b g1 id g2
theorem R1.still {w w':World} {K K':Kinds} (g:Still w K w' K') (s:Sh) (x:s.den) (v:Value) (h:R1 w K s x v):R1 w' K' s x v :=
 ⟨RS.ext g.ext g.rows s x _ h.1,h.2⟩
theorem RTup.still {w w':World} {K K':Kinds} (g:Still w K w' K'):∀(s:Sh) (x:s.den) (vs:List Value),RTup w K s x vs→RTup w' K' s x vs
 | .pair a b,x,_::vs,h=>⟨R1.still g a x.1 _ h.1,RTup.still g b x.2 vs h.2⟩
 | .pair _ _,_,[],h=>h.elim
 | .ty .unit,_,_,h=>h
 | .ty (.pair _ _),_,_,h=>h.elim
 | .ty (.arr _ _),_,_,h=>h.elim
 | .ty (.int _),_,_,h=>h.elim
 | .ty .bool,_,_,h=>h.elim
 | .ty .str,_,_,h=>h.elim
 | .ty .func,_,_,h=>h.elim
 | .ty (.sl _),_,_,h=>h.elim
 | .osl ..,_,_,h=>h.elim
 | .box ..,_,_,h=>h.elim
 | .boxi ..,_,_,h=>h.elim
 | .win ..,_,_,h=>h.elim
 | .elp ..,_,_,h=>h.elim
 | .mp _,_,_,h=>h.elim
 | .nbox _,_,_,h=>h.elim
 | .tsl ..,_,_,h=>h.elim
 | .wsl ..,_,_,h=>h.elim
 | .wref ..,_,_,h=>h.elim
 | .rowc _,_,_,h=>h.elim
 | .mapc,_,_,h=>h.elim
 | .tyc ..,_,_,h=>h.elim
 | .ref ..,_,_,h=>h.elim
 | .fn ..,_,_,h=>h.elim
 | .lit ..,_,_,h=>h.elim
 | .tup ..,_,_,h=>h.elim
 | .top,_,_,h=>h.elim
theorem RV.still {w w':World} {K K':Kinds} (g:Still w K w' K') {av:AV} {v:Value} (h:RV w K av v):RV w' K' av v:=by
 obtain⟨s,x⟩:=av
 cases s
 case tup a=>obtain⟨vs,e,h⟩:=h;exact⟨vs,e,RTup.still g a x _ h⟩
 case top=>trivial
 all_goals exact R1.still g _ x v h
section
variable {fr:Fr} {n:Nat} {K K':Kinds} {s:St} {a:Act} {w w':World}
theorem Rel.still (h:Rel fr n K s a w) (g:Still w K w' K'):Rel fr n K' s a w' where
 ext:=h.ext.trans g.ext
 size:=h.size
 defers:=h.defers
 ents:=fun t av ht=>(h.ents t av ht).still g
 frame:=h.frame
 heap:=fun b id hb hk=>by
  obtain⟨h1,h2⟩:=g.fresh b hb id hk
  obtain⟨av,o,e1,e2,e3⟩:=h.heap b id h1 h2
  exact⟨av,o,e1,(g.boxes b id h1 h2).trans e2,e3.imp (RT.ext g.ext.stab) (RS.ext g.ext g.rows)⟩
 uniq:=fun b b' id hb hb' hk hk'=>by
  obtain⟨h1,h2⟩:=g.fresh b hb id hk
  obtain⟨h3,h4⟩:=g.fresh b' hb' id hk'
  exact h.uniq b b' id h1 h3 h2 h4
theorem getD_set {A:Array Value} {d:Nat} {v:Value} (t:Nat) (hd:d<A.size):(A.setIfInBounds d v).getD t undef=if t=d then v else A.getD t undef:=by
 simp only[Array.getD_eq_getD_getElem?,Array.getElem?_setIfInBounds]
 by_cases h:d=t
 ·subst h;simp[hd]
 ·rw[if_neg h,if_neg (Ne.symm h)]
theorem Rel.set (h:Rel fr n K s a w) {d:Nat} {av:AV} {v:Value} (hd:d<n) (hv:RV w K av v):Rel fr n K (s.set d av) (a.put (some d) v) w where
 ext:=h.ext
 size:=by simp[Act.put,h.size]
 defers:=h.defers
 ents:=fun t av' ht=>by
  simp only[St.set,look_put] at ht
  simp only[Act.put]
  rw[getD_set t (by rw[h.size];exact hd)]
  by_cases e:t=d
  ·subst e
   simp only[if_true] at ht ⊢
   cases ht
   exact hv
  ·rw[if_neg e] at ht ⊢
   exact h.ents t av' ht
 frame:=fun t ht hT=>by
  simp only[St.set,look_put] at ht
  by_cases e:t=d
  ·rw[if_pos e] at ht;cases ht
  ·rw[if_neg e] at ht
   simp only[Act.put,Array.getElem?_setIfInBounds]
   rw[if_neg (Ne.symm e)]
   exact h.frame t ht hT
 heap:=h.heap
 uniq:=h.uniq
theorem Rel.setO (h:Rel fr n K s a w) {d:Option Nat} {av:AV} {v:Value} (hd:∀t,d=some t→t<n) (hv:RV w K av v):Rel fr n K (s.setO d av) (a.put d v) w:=by
 cases d with
 |none=>exact h
 |some t=>exact h.set (hd t rfl) hv
theorem RV_top (v:Value):RV w K .top v:=trivial
theorem Rel.get (h:Rel fr n K s a w) (t:Nat):RV w K (s.get t) (a.tmps.getD t undef):=by
 unfold St.get
 cases e:look t s.ents with
 |none=>exact RV_top _
 |some av=>exact h.ents t av e
end
def setK (K:Kinds) (b:Nat) (k:Kind):Kinds:=fun x=>if x=b then k else K x
theorem setK_same (K:Kinds) (b:Nat) (k:Kind):setK K b k b=k:=by simp[setK]
theorem setK_other (K:Kinds) {b x:Nat} (k:Kind) (h:x≠b):setK K b k x=K x:=by simp[setK,h]
theorem alloc_size (w:World) (o:Obj):(w.alloc o).heap.size=w.heap.size+1:=by
 show(w.heap.push o).size=_
 exact Array.size_push _
theorem Ext.alloc (w:World) (K:Kinds) (c:Array Value) (t:TypeId) (k:Kind) (m:Nat):Ext w K ({w with drawn:=w.drawn+m}.alloc (.cells c t (0,0))) (setK K w.heap.size k) where
 os:=rfl
 tape:=rfl
 output:=rfl
 size:=by rw[alloc_size];exact Nat.le_succ _
 fix:=fun b hb _=>⟨setK_other K k (by omega),heap_alloc_old _ _ b hb⟩
 stab:=fun b o' hb hk=>⟨by unfold Stab at *;rw[setK_other K k (by omega)];exact hk,World.cell?_alloc_lt _ _ _ hb⟩
 box:=fun b id hb hk=>by rw[setK_other K k (by omega)];exact hk
 bsz:=fun b id n _ _ ⟨cs,T,h1,h2⟩=>⟨cs,T,(heap_alloc_old {w with drawn:=w.drawn+m} _ b (Array.getElem?_eq_some_iff.1 h1).1).trans h1,h2⟩
theorem Still.alloc (w:World) (K:Kinds) (c:Array Value) (t:TypeId) (id u m:Nat):Still w K ({w with drawn:=w.drawn+m}.alloc (.cells c t (0,0))) (setK K w.heap.size (.row id u)) where
 ext:=Ext.alloc w K c t _ m
 rows:=fun b id' u' hb hk=>⟨by rw[setK_other K _ (by omega)];exact hk,heap_alloc_old _ _ b hb⟩
 boxes:=fun b _ hb _=>heap_alloc_old _ _ b hb
 fresh:=fun b hb id' hk=>by
  by_cases e:b=w.heap.size
  ·subst e;rw[setK_same] at hk;cases hk
  ·rw[setK_other K _ e] at hk
   rw[alloc_size] at hb
   exact⟨by have:b<w.heap.size+1:=hb;omega,hk⟩
theorem heap_new (w:World) (o:Obj):(w.alloc o).heap[w.heap.size]?=some o:=heap_alloc_new w o
theorem At.new (w:World) (K:Kinds) (cs:List Value) (rest:Array Value) (T:TypeId) (fz:Nat×Nat) (id u m:Nat) (hu:cs.length≤u) :
  At ({w with drawn:=w.drawn+m}.alloc (.cells (cs.toArray++rest) T fz)) (setK K w.heap.size (.row id u)) ⟨w.heap.size,0,none⟩ cs:=by
 intro j v hj
 have hlt:j<cs.length:=(List.getElem?_eq_some_iff.1 hj).1
 refine⟨rfl,?_,?_⟩
 ·have:=heap_new {w with drawn:=w.drawn+m} (.cells (cs.toArray++rest) T fz)
  simp only[World.cell?,Nat.zero_add]
  rw[show({w with drawn:=w.drawn+m}:World).heap.size=w.heap.size from rfl] at this
  rw[this]
  simp only[Option.isSome_none,Bool.false_eq_true,if_false]
  rw[Array.getElem?_append_left (by simpa using hlt)]
  simpa using hj
 ·unfold Stab
  rw[setK_same]
  show 0+j<u
  omega
def Obj.thaw:Obj→Bool
 | .cells _ _ (0,0)=>true
 | .cells _ _ _=>false
 |_=>true
theorem BoxOk.thaw {w:World} {K:Kinds} {s:Sh} {x:s.den} {o:Obj} (h:BoxOk w K s x o):Obj.thaw o=true:=by
 cases s
 case mapc=>obtain⟨es,c,rfl,_⟩:=h;rfl
 case tyc=>obtain⟨cs,rfl,_⟩:=h;rfl
 all_goals (obtain⟨cs,T,rfl,_⟩:=h;rfl)
theorem RowLen.alloc {w:World} {o:Obj} {b n:Nat} (h:RowLen w b n):RowLen (w.alloc o) b n:=by
 obtain⟨cs,T,h1,h2⟩:=h
 exact⟨cs,T,(heap_alloc_old _ _ b (Array.getElem?_eq_some_iff.1 h1).1).trans h1,h2⟩
theorem Ext.allocO (w:World) (K:Kinds) (o:Obj) (ho:Obj.thaw o=true) (k:Kind):Ext w K (w.alloc o) (setK K w.heap.size k) where
 os:=rfl
 tape:=rfl
 output:=rfl
 size:=by rw[alloc_size];exact Nat.le_succ _
 fix:=fun b hb _=>⟨setK_other K k (by omega),heap_alloc_old _ _ b hb⟩
 stab:=fun b o' hb hk=>⟨by unfold Stab at *;rw[setK_other K k (by omega)];exact hk,World.cell?_alloc_lt _ _ _ hb⟩
 box:=fun b id hb hk=>by rw[setK_other K k (by omega)];exact hk
 bsz:=fun b id n _ _ hn=>hn.alloc
theorem Rel.newObj {fr:Fr} {n:Nat} {K:Kinds} {s:St} {a:Act} {w:World} (h:Rel fr n K s a w) {d:Option Nat} (hd:∀t,d=some t→t<n) {id:Nat} (hid:look id s.heap=none)
  {c r:AV} {o:Obj} {v:Value} (hc:BoxOk w K c.sh c.v o) (hr:RV (w.alloc o) (setK K w.heap.size (.box id)) r v) :
  Rel fr n (setK K w.heap.size (.box id)) (s.apply d (.new id c r)) (a.put d v) (w.alloc o):=by
 have hx:Ext w K (w.alloc o) (setK K w.heap.size (.box id)):=Ext.allocO w K o hc.thaw _
 have hrows:∀b id' u,b<w.heap.size→K b=.row id' u→setK K w.heap.size (.box id) b=.row id' u∧(w.alloc o).heap[b]?=w.heap[b]? :=
  fun b _ _ hb hk=>⟨by rw[setK_other K _ (by omega)];exact hk,heap_alloc_old _ _ b hb⟩
 have hnot:∀b,b<w.heap.size→K b≠.box id:=fun b hb hk=>by
  obtain⟨av,_,e,_⟩:=h.heap b id hb hk
  rw[hid] at e;cases e
 have hsz:(w.alloc o).heap.size=w.heap.size+1:=alloc_size _ _
 have base:Rel fr n (setK K w.heap.size (.box id)) {s with heap:=Av.put id c s.heap} a (w.alloc o):={
  ext:=h.ext.trans hx
  size:=h.size
  defers:=h.defers
  ents:=fun t av ht=>by
   have hv:=h.ents t av ht
   obtain⟨sh,x⟩:=av
   have key:∀(s:Sh) (x:s.den) (v:Value),R1 w K s x v→R1 (w.alloc o) (setK K w.heap.size (.box id)) s x v:=fun s x v hh=>⟨RS.ext hx hrows s x _ hh.1,hh.2⟩
   have keyT:∀(s:Sh) (x:s.den) (vs:List Value),RTup w K s x vs→RTup (w.alloc o) (setK K w.heap.size (.box id)) s x vs:=by
    intro s
    induction s with
    |pair a b _ ihb =>
     intro x vs hh
     cases vs with
     |nil=>exact hh.elim
     |cons v vs=>exact⟨key a x.1 v hh.1,ihb x.2 vs hh.2⟩
    |ty t=>intro x vs hh;cases t<;>first|exact hh |exact hh.elim
    |_=>intro x vs hh;exact hh.elim
   cases sh
   case tup a=>obtain⟨vs,e,hh⟩:=hv;exact⟨vs,e,keyT a x _ hh⟩
   case top=>trivial
   all_goals exact key _ x _ hv
  frame:=h.frame
  heap:=fun b id' hb hk=>by
   simp only[look_put]
   by_cases e:b=w.heap.size
   ·subst e
    rw[setK_same] at hk
    injection hk with hk
    subst hk
    exact⟨c,o,by simp,heap_new w _,hc.imp (RT.ext hx.stab) (RS.ext hx hrows)⟩
   ·rw[setK_other K _ e] at hk
    have hb':b<w.heap.size:=by omega
    have hne:id'≠id:=fun e'=>hnot b hb' (e'▸hk)
    obtain⟨av,o',e1,e2,e3⟩:=h.heap b id' hb' hk
    exact⟨av,o',by rw[if_neg hne];exact e1,(heap_alloc_old _ _ b hb').trans e2,e3.imp (RT.ext hx.stab) (RS.ext hx hrows)⟩
  uniq:=fun b b' id' hb hb' hk hk'=>by
   by_cases e:b=w.heap.size<;>by_cases e':b'=w.heap.size
   ·rw[e,e']
   ·subst e
    rw[setK_same] at hk
    injection hk with hk
    rw[setK_other K _ e'] at hk'
    exact(hnot b' (by omega) (hk▸hk')).elim
   ·subst e'
    rw[setK_same] at hk'
    injection hk' with hk'
    rw[setK_other K _ e] at hk
    exact(hnot b (by omega) (hk'▸hk)).elim
   ·rw[setK_other K _ e] at hk
    rw[setK_other K _ e'] at hk'
    exact h.uniq b b' id' (by omega) (by omega) hk hk'}
 have:=base.setO (d:=d) hd hr
 cases d<;>exact this
theorem Rel.newBox {fr:Fr} {n:Nat} {K:Kinds} {s:St} {a:Act} {w:World} (h:Rel fr n K s a w) {d:Option Nat} (hd:∀t,d=some t→t<n) {id:Nat} (hid:look id s.heap=none)
  {c:AV} {cs:Array Value} (T:TypeId) (hc:BoxOk w K c.sh c.v (.cells cs T (0,0))) :
  Rel fr n (setK K w.heap.size (.box id)) (s.apply d (.new id c (.box id 0))) (a.put d (.pointer (some ⟨w.heap.size,0,none⟩))) (w.alloc (.cells cs T)) :=
 h.newObj hd hid hc ⟨⟨w.heap.size,rfl,setK_same _ _ _,by rw[alloc_size];omega⟩,(fun e=>nomatch e),(fun _ c e=>nomatch e)⟩
theorem Rel.putObj {fr:Fr} {n:Nat} {K:Kinds} {s:St} {a:Act} {w w':World} (h:Rel fr n K s a w) {d:Option Nat} (hd:∀t,d=some t→t<n) {id b:Nat} (hb:b<w.heap.size) (hk:K b=.box id)
  (hos:w'.os=w.os) (htp:w'.tape=w.tape) (hou:w'.output=w.output) (hsz:w'.heap.size=w.heap.size) (ho:∀x,x≠b→w'.heap[x]?=w.heap[x]?) {o o':Obj} (hcur:w.heap[b]?=some o) (ht:Obj.thaw o=true)
  (hh:w'.heap[b]?=some o') (hlen:∀m,RowLen w b m→RowLen w' b m) {c:AV} (hc:BoxOk w K c.sh c.v o') (v:Value) :
  Rel fr n K (s.apply d (.put id c)) (a.put d v) w':=by
 have keep:Keep w K w' K:=fun x o hx hs=>by
  have hne:x≠b:=fun e=>by subst e;unfold Stab at hs;rw[hk] at hs;exact hs
  exact⟨hs,World.cell?_of_block (a:=⟨x,o,none⟩) (ho x hne)⟩
 have hx:Ext w K w' K:={
  os:=hos
  tape:=htp
  output:=hou
  size:=Nat.le_of_eq hsz.symm
  fix:=fun x hx hkx=>⟨rfl,ho x (fun e=>by subst e;rw[hk] at hkx;cases hkx)⟩
  stab:=keep
  box:=fun _ _ _ hkx=>hkx
  bsz:=fun x _ m _ _ hn=>by
   by_cases e:x=b
   ·subst e;exact hlen m hn
   ·obtain⟨cs,T,h1,h2⟩:=hn
    exact⟨cs,T,(ho x e).trans h1,h2⟩}
 have hrows:∀x id' u,x<w.heap.size→K x=.row id' u→K x=.row id' u∧w'.heap[x]?=w.heap[x]? :=
  fun x _ _ _ hkx=>⟨hkx,ho x (fun e=>by subst e;rw[hk] at hkx;cases hkx)⟩
 have hrs:∀(s:Sh) (x:s.den) (cs':List Value),RS w K s x cs'→RS w' K s x cs':=fun s x cs'=>RS.ext hx hrows s x cs'
 have hr1:∀(s:Sh) (x:s.den) (v:Value),R1 w K s x v→R1 w' K s x v:=fun s x v hh=>⟨hrs s x _ hh.1,hh.2⟩
 have hrt:∀(s:Sh) (x:s.den) (vs:List Value),RTup w K s x vs→RTup w' K s x vs:=by
  intro s
  induction s with
  |pair a b _ ihb =>
   intro x vs hh
   cases vs with
   |nil=>exact hh.elim
   |cons v vs=>exact⟨hr1 a x.1 v hh.1,ihb x.2 vs hh.2⟩
  |ty t=>intro x vs hh;cases t<;>first|exact hh |exact hh.elim
  |_=>intro x vs hh;exact hh.elim
 have base:Rel fr n K {s with heap:=Av.put id c s.heap} a w':={
  ext:=h.ext.trans hx
  size:=h.size
  defers:=h.defers
  ents:=fun t av ht=>by
   have hv:=h.ents t av ht
   obtain⟨sh,x⟩:=av
   cases sh
   case tup a=>obtain⟨vs,e,hh⟩:=hv;exact⟨vs,e,hrt a x _ hh⟩
   case top=>trivial
   all_goals exact hr1 _ x _ hv
  frame:=h.frame
  heap:=fun x id' hx' hkx=>by
   rw[hsz] at hx'
   simp only[look_put]
   by_cases e:x=b
   ·subst e
    rw[hk] at hkx
    injection hkx with hkx
    subst hkx
    exact⟨c,o',by simp,hh,hc.imp (RT.ext keep) hrs⟩
   ·have hne:id'≠id:=fun e'=>e (h.uniq x b id hx' hb (e'▸hkx) hk)
    obtain⟨av,o2,e1,e2,e3⟩:=h.heap x id' hx' hkx
    exact⟨av,o2,by rw[if_neg hne];exact e1,(ho x e).trans e2,e3.imp (RT.ext keep) hrs⟩
  uniq:=fun x x' id' hx' hx''=>by rw[hsz] at hx' hx'';exact h.uniq x x' id' hx' hx''}
 have:=base.setO (d:=d) hd (RV_top v)
 cases d<;>exact this
theorem Rel.putBox {fr:Fr} {n:Nat} {K:Kinds} {s:St} {a:Act} {w:World} (h:Rel fr n K s a w) {d:Option Nat} (hd:∀t,d=some t→t<n) {id b:Nat} (hb:b<w.heap.size) (hk:K b=.box id)
  {c:AV} {cs:Array Value} {T:TypeId} {cur:Array Value} (hcur:w.heap[b]?=some (.cells cur T (0,0))) (hsize:cur.size≤cs.size) (hc:BoxOk w K c.sh c.v (.cells cs T (0,0))) (v:Value) :
  Rel fr n K (s.apply d (.put id c)) (a.put d v) (w.setRow b cs) :=
 h.putObj (w':=w.setRow b cs) hd hb hk rfl rfl rfl (setRow_size w b cs) (fun x hx=>setRow_other w b x cs hx) hcur rfl (setRow_heap w b cur cs T (0,0) hcur)
  (fun m ⟨cs',T',h1,h2⟩=>⟨cs,T,setRow_heap w b cur cs T (0,0) hcur,by rw[hcur] at h1;cases h1;omega⟩) hc v
theorem Rel.app {fr:Fr} {n:Nat} {K K':Kinds} {s:St} {a:Act} {w w':World} (h:Rel fr n K s a w) {d:Option Nat} (hd:∀t,d=some t→t<n) {id:Nat} {r:AV} {v:Value}
  (hx:Ext w K w' K') (hr:∀b id' u,id'≠id→b<w.heap.size→K b=.row id' u→K' b=.row id' u∧w'.heap[b]?=w.heap[b]?)
  (hbx:∀b id',b<w.heap.size→K b=.box id'→w'.heap[b]?=w.heap[b]?)
  (hfresh:∀b,b<w'.heap.size→∀id',K' b=.box id'→b<w.heap.size∧K b=.box id') (hv:RV w' K' r v) :
  Rel fr n K' (s.apply d (.app id r)) (a.put d v) w':=by
 have hrow:∀b id' u j,b<w.heap.size→K b=.row id' u→strike id id'=some j→K' b=.row j u∧w'.heap[b]?=w.heap[b]?:=fun b id' u j hb hk hj=>by
  unfold strike at hj
  split at hj
  ·cases hj
  ·rename_i hne
   cases hj
   exact hr b id' u (fun e=>hne (by simp[e])) hb hk
 have hbox:∀b id' j,b<w.heap.size→K b=.box id'→some id'=some j→K' b=.box j∧∀n,RowLen w b n→RowLen w' b n:=fun b id' j hb hk hj=>by
  cases hj
  exact⟨hx.box b id' hb hk,fun n hn=>hx.bsz b id' n hb hk hn⟩
 have base:Rel fr n K' {ents:=mapV (·.ren (strike id) some) s.ents,heap:=mapV (·.ren (strike id) some) s.heap,next:=s.next} a w':={
  ext:=h.ext.trans hx
  size:=h.size
  defers:=h.defers
  ents:=fun t av ht=>by
   simp only[look_mapV,Option.map_eq_some_iff] at ht
   obtain⟨av',e1,e2⟩:=ht
   subst e2
   exact RV.ren hx.stab hx.size hrow hbox (h.ents t av' e1)
  frame:=fun t ht=>h.frame t (by simpa [look_mapV] using ht)
  heap:=fun b id' hb hk=>by
   obtain⟨h1,h2⟩:=hfresh b hb id' hk
   obtain⟨av,o,e1,e2,e3⟩:=h.heap b id' h1 h2
   exact⟨av.ren (strike id) some,o,by simp[look_mapV,e1],(hbx b id' h1 h2).trans e2,BoxOk.ren hx.stab hx.size hrow hbox e3⟩
  uniq:=fun b b' id' hb hb' hk hk'=>by
   obtain⟨h1,h2⟩:=hfresh b hb id' hk
   obtain⟨h3,h4⟩:=hfresh b' hb' id' hk'
   exact h.uniq b b' id' h1 h3 h2 h4}
 have:=base.setO (d:=d) hd hv
 cases d<;>exact this
end Go.Av
end
section
namespace Go.Av
open Go
section
variable {P:Program} {eqs:List TypeId} {fr:Fr} {n:Nat} {K:Kinds} {s:St} {a:Act} {w:World} {no:Nat→Bool} {id:Nat} {o:Oper}
def OpOk (P:Program) (fr:Fr) (n:Nat) (s:St) (a:Act) (w:World) (o:Oper) (e:Eff):Prop :=
 ∃v w' K',((execOp a.eval o).run P w=.ok (.value v) w'∨(execOp a.eval o).run P w=.ok .skip w'∧v=undef)∧Rel fr n K' (s.apply o.dst e) (a.put o.dst v) w'
theorem OpOk.pure (hr:Rel fr n K s a w) (hd:∀t,o.dst=some t→t<n) {av:AV} {v:Value} (hv:RV w K av v) (hrun:(execOp a.eval o).run P w=.ok (.value v) w) :
  OpOk P fr n s a w o (.val av):=⟨v,w,K,.inl hrun,hr.setO hd hv⟩
theorem solid_bare {a:AV} (h:a.solid=true):a.sh.bare=true:=by
 obtain⟨s,x⟩:=a
 cases s<;>first|rfl |cases h
theorem newOf_ok {t:TypeId} {z:AV} {zv:Value} (hb:z.sh.bare=true) (h:RS w K z.sh z.v zv.cells.toList):BoxOk w K (newOf t z (some zv)).sh (newOf t z (some zv)).v (.cells zv.cells t (0,0)):=by
 have e:(zv=.agg ⟨[.pointer none,.slice none 0 0]⟩∧newOf t z (some zv)=⟨.tyc t (.pair (.lit (.pointer none)) (.pair (.lit (.slice none 0 0)) (.ty .unit))),((),(),())⟩)∨newOf t z (some zv)=z:=by
  unfold newOf
  split
  ·rename_i heq
   cases heq
   exact .inl ⟨rfl,rfl⟩
  ·exact .inr rfl
 rcases e with⟨rfl,e⟩ |e
 ·rw[e]
  exact⟨_,rfl,[_],[_],rfl,⟨rfl,rfl⟩,[_],[],rfl,⟨rfl,rfl⟩,rfl⟩
 ·rw[e]
  exact BoxOk.of_RS hb h
theorem RV.scalar {av:AV} {v:Value} (h:RS w K av.sh av.v [v]) (h1:av.sh.agg=false) (h2:v.oneCell'=true):RV w K av v:=by
 have hc:v.cells=#[v]:=by cases v<;>first|rfl |cases h2
 exact R1.toRV ⟨by rw[hc];exact h,(fun e=>by rw[h1] at e;cases e),(fun _ c e=>by subst e;cases h2)⟩
theorem constAV_RV (v:Value):RV w K (constAV v) v:=by
 cases v
 case int k m=>exact RV.scalar (av:=.int k m) rfl rfl rfl
 case bool b=>exact RV.scalar (av:=.bool b) rfl rfl rfl
 case string b=>exact RV.scalar (av:=.str b.data.toList) rfl rfl rfl
 case agg=>trivial
 case tuple=>trivial
 all_goals exact RV.scalar (av:=.lit _) ⟨rfl,rfl⟩ rfl rfl
theorem opnd_RV (hr:Rel fr n K s a w) (x:Operand):RV w K (opnd s x) (a.eval x):=by
 cases x
 case tmp t=>exact hr.get t
 case const v=>exact constAV_RV v
 case global g=>trivial
 case func f=>exact RV.scalar (av:=⟨.fn f (.ty .unit),()⟩) ⟨[],rfl,rfl⟩ rfl rfl
theorem RV.int {k:IntKind} {m:Int} {v:Value} (h:RV w K ⟨.ty (.int k),m⟩ v):v=.int k m:=by
 obtain⟨h1,_,h3⟩:=h
 have h1:v.cells.toList=[.int k m]:=h1
 cases v<;>simp[Value.cells] at h1<;>first|(obtain⟨rfl,rfl⟩:=h1;rfl) |exact(h3 rfl _ rfl).elim |cases h1
theorem RV.one_ {s:Sh} {x:s.den} {c v:Value} (h:R1 w K s x v) (ha:s.agg=false) (hc:v.cells.toList=[c]):v=c:=by
 cases v
 case agg cs=>exact(h.2.2 ha cs rfl).elim
 all_goals (simp[Value.cells] at hc;exact hc)
theorem RV.bool {b:Bool} {v:Value} (h:RV w K ⟨.ty .bool,b⟩ v):v=.bool b:=RV.one_ h rfl h.1
theorem RV.func {f:Option FuncId} {v:Value} (h:RV w K ⟨.ty .func,f⟩ v):v=fnVal f:=RV.one_ h rfl h.1
theorem RV.str {b:List UInt8} {v:Value} (h:RV w K ⟨.ty .str,b⟩ v):v=.string ⟨⟨b⟩⟩:=RV.one_ h rfl h.1
theorem RV.sl {e:Ty} {xs:List e.den} {v:Value} (h:RV w K ⟨.ty (.sl e),xs⟩ v):∃A len cap,v=.slice A len cap∧RT w K (.sl e) xs [.slice A len cap]:=by
 obtain⟨A,len,cap,h1,h2⟩:=h.1
 have:=RV.one_ h rfl h1
 subst this
 exact⟨A,len,cap,rfl,⟨A,len,cap,rfl,h2⟩⟩
theorem RV.osl {id:Nat} {e:Ty} {xs:List e.den} {v:Value} (h:RV w K ⟨.osl id e,xs⟩ v):∃A len cap,v=.slice A len cap∧RT w K (.sl e) xs [.slice A len cap]∧Own w K id e.size A len cap:=by
 obtain⟨⟨A,len,cap,h1,h2⟩,h3⟩:=h.1
 have:=RV.one_ h rfl h1
 subst this
 exact⟨A,len,cap,rfl,⟨A,len,cap,rfl,h2⟩,h3 A len cap h1⟩
theorem RV.box {id off:Nat} {v:Value} (h:RV w K (.box id off) v):∃b,v=.pointer (some ⟨b,off,none⟩)∧K b=.box id∧b<w.heap.size:=by
 obtain⟨b,h1,h2⟩:=h.1
 exact⟨b,RV.one_ h rfl h1,h2⟩
theorem RV.boxi {id off m:Nat} {e:Ty} {i:Nat} {v:Value} (h:RV w K ⟨.boxi id off m e,i⟩ v):∃b,v=.pointer (some ⟨b,off+i*e.size,none⟩)∧K b=.box id∧b<w.heap.size∧i<m:=by
 obtain⟨b,h1,h2⟩:=h.1
 exact⟨b,RV.one_ h rfl h1,h2⟩
theorem RV.win {id:Nat} {e:Ty} {y:Nat×Nat} {v:Value} (h:RV w K ⟨.win id e,y⟩ v):∃b j cap,v=.slice (some ⟨b,j,none⟩) y.2 cap∧K b=.box id∧b<w.heap.size∧y.2≤cap∧(y.2≠0→j=y.1*e.size)∧RowLen w b ((y.1+y.2)*e.size):=by
 obtain⟨b,j,cap,h1,h2⟩:=h.1
 exact⟨b,j,cap,RV.one_ h rfl h1,h2⟩
theorem RV.elp {id:Nat} {e:Ty} {o i:Nat} {v:Value} (h:RV w K ⟨.elp id e o,i⟩ v):∃b,v=.pointer (some ⟨b,i*e.size+o,none⟩)∧K b=.box id∧b<w.heap.size∧RowLen w b ((i+1)*e.size):=by
 obtain⟨b,h1,h2⟩:=h.1
 exact⟨b,RV.one_ h rfl h1,h2⟩
theorem RV.mp {id:Nat} {x:Unit} {v:Value} (h:RV w K ⟨.mp id,x⟩ v):∃b,v=.map (some b)∧K b=.box id∧b<w.heap.size:=by
 obtain⟨b,h1,h2⟩:=h.1
 exact⟨b,RV.one_ h rfl h1,h2⟩
theorem RV.wref {id:Nat} {e:Ty} {y:Nat×Nat} {v:Value} (h:RV w K ⟨.wref id e,y⟩ v):∃a cc,v=.pointer (some a)∧RWin w K id e y cc∧At w K a cc:=by
 obtain⟨a,cc,h1,h2⟩:=h.1
 exact⟨a,cc,RV.one_ h rfl h1,h2⟩
theorem RV.wsl {tg:Option Nat} {id:Nat} {e:Ty} {ys:List (Nat×Nat)} {v:Value} (h:RV w K ⟨.wsl tg id e,ys⟩ v):∃A len cap,v=.slice A len cap∧RWsl w K id e ys [.slice A len cap]∧∀t,tg=some t→Own w K t 1 A len cap:=by
 obtain⟨⟨A,len,cap,h1,h2⟩,h3⟩:=h.1
 have:=RV.one_ h rfl h1
 subst this
 exact⟨A,len,cap,rfl,⟨A,len,cap,rfl,h2⟩,fun t ht=>h3 t A len cap ht h1⟩
theorem RL.getW {α:Type} {R:α→List Value→Prop} {d:α} (hl:∀x c,R x c→c.length=1):∀(xs:List α) (cs:List Value) (i:Nat),RL R xs cs→i<xs.length→R (xs.getD i d) ((cs.drop i).take 1)
 |[],_,_,_,h=>by cases h
 |x::xs,_,0,⟨c1,c2,e,h1,_⟩,_=>by
  have:=hl _ _ h1
  subst e
  simp only[List.getD_cons_zero,List.drop_zero]
  rw[List.take_append_of_le_length (by omega),List.take_of_length_le (by omega)]
  exact h1
 |x::xs,_,i+1,⟨c1,c2,e,h1,h2⟩,hi=>by
  have:=hl _ _ h1
  subst e
  rw[List.getD_cons_succ,List.drop_append,List.drop_of_length_le (by omega),List.nil_append,show i+1-c1.length=i by omega]
  exact RL.getW hl xs c2 i h2 (by simpa using hi)
theorem RV.ref {t:Ty} {off:Nat} {x:t.den} {v:Value} (h:RV w K ⟨.ref t off,x⟩ v):∃a cc,v=.pointer (some (a.add off))∧RT w K t x cc∧At w K a cc:=by
 obtain⟨a,cc,h1,h2⟩:=h.1
 exact⟨a,cc,RV.one_ h rfl h1,h2⟩
theorem RV.lit {u v:Value} (h:RV w K (.lit u) v):v=u:=RV.one_ h rfl h.1.1
theorem RV.fn {f:Nat} {c:Sh} {x:c.den} {v:Value} (h:RV w K ⟨.fn f c,x⟩ v):∃cc,v=.func (.func f) #[] cc.toArray∧RS w K c x cc:=by
 obtain⟨cc,h1,h2⟩:=h.1
 exact⟨cc,RV.one_ h rfl h1,h2⟩
theorem RV.as {av:AV} {t:Ty} {x:t.den} {v:Value} (h:RV w K av v) (ha:av.as t=some x):RT w K t x v.cells.toList:=by
 obtain⟨sh,y⟩:=av
 cases sh
 case tup=>cases t<;>cases ha
 case top=>cases t<;>cases ha
 all_goals exact as_RT _ _ _ _ _ ha h.1
theorem RV.of_cells {av:AV} {cs:List Value} (h:RS w K av.sh av.v cs) {g:Bool} (hg:av.sh.agg=g) (hlen:g=false→cs.length=1→∀c,cs=[c]→c.oneCell'=true) :
  RV w K av (if g then .agg cs.toArray else cs.headD undef):=by
 subst hg
 cases e:av.sh.agg
 ·have h1:=RS.length _ _ _ h
  rw[Sh.size_pos _ e] at h1
  obtain⟨c,rfl⟩:=List.length_eq_one_iff.1 h1
  exact RV.scalar h e (hlen e rfl c rfl)
 ·exact R1.toRV ⟨h,(fun _=>⟨_,rfl⟩),(fun e'=>by rw[e] at e';cases e')⟩
theorem known_spec {t:TypeId} (h:known P t=true):∃d i,P.underlying t=some d∧P.info? t=some i∧P.cellsOf t=i.size∧(isStruct P t=true↔((∃fs,d=.struct fs)∨∃n e,d=.array n e)):=by
 unfold known at h
 obtain⟨d,hd⟩:=Option.isSome_iff_exists.1 h
 have:∃i,P.info? t=some i:=by
  unfold Program.underlying at hd
  cases hi:P.info? t with
  |none=>rw[hi] at hd;cases hd
  |some i=>exact⟨i,rfl⟩
 obtain⟨i,hi⟩:=this
 refine⟨d,i,hd,hi,by simp[Program.cellsOf,hi],?_⟩
 unfold isStruct
 rw[hd]
 cases d<;>simp
theorem run_isAgg {t:TypeId} (h:known P t=true) (w:World):(isAgg t).run P w=.ok (isStruct P t) w:=by
 obtain⟨d,i,hd,_⟩:=known_spec h
 simp only[isAgg,Sem.run_bind,run_underlying hd,Result.andThen_ok]
 unfold isStruct
 rw[hd]
 cases d<;>rfl
theorem run_sizeOf {t:TypeId} (h:known P t=true) (w:World):(sizeOf t).run P w=.ok (P.cellsOf t) w:=by
 obtain⟨d,i,_,hi,hc,_⟩:=known_spec h
 simp[sizeOf,typeInfo,hi,hc]
theorem add_eq {a:Addr} (h:a.spot=none) (j:Nat):a.add j=⟨a.block,a.off+j,none⟩:=by
 unfold Addr.add
 split
 ·rename_i hj;subst hj;cases a;simp at h;subst h;rfl
 ·rfl
theorem add_add (a:Addr) (i j:Nat):(a.add i).add j=a.add (i+j):=by
 unfold Addr.add
 by_cases hi:i=0<;>by_cases hj:j=0<;>simp[hi,hj,Nat.add_assoc]
theorem At.cell {a:Addr} {cs:List Value} (h:At w K a cs) (j:Nat) (v:Value) (hj:cs[j]?=some v):w.cell? (a.add j)=some v:=by
 obtain⟨h1,h2,_⟩:=h j v hj
 rw[add_eq h1]
 exact h2
theorem run_loadVar_cells {t:TypeId} (hk:known P t=true) {a:Addr} {cs:List Value} (hlen:cs.length=P.cellsOf t) (hg:isStruct P t=false→P.cellsOf t=1)
  (h:∀j v,cs[j]?=some v→w.cell? (a.add j)=some v):(loadVar t a).run P w=.ok (if isStruct P t then .agg cs.toArray else cs.headD undef) w:=by
 simp only[loadVar,Sem.run_bind,run_isAgg hk,Result.andThen_ok]
 cases e:isStruct P t
 ·simp only[Bool.false_eq_true,if_false]
  have h1:=hg e
  obtain⟨c,rfl⟩:=List.length_eq_one_iff.1 (hlen.trans h1)
  have:=h 0 c rfl
  simp only[Addr.add,if_true] at this
  simp[this]
 ·simp only[if_true,Sem.run_bind,run_sizeOf hk,Result.andThen_ok,←hlen,run_loadCells_list w a cs h]
  rfl
theorem exec_v {m:Sem Value} (h:execOp a.eval o=(do let x ←m;pure (.value x))) {v:Value} {w':World} (hm:m.run P w=.ok v w'):(execOp a.eval o).run P w=.ok (.value v) w':=by
 rw[h,Sem.run_bind,hm];rfl
theorem RL.lt {e:Ty} {xs:List e.den} {cs:List Value} {i:Nat} (h:RL (RT w K e) xs cs) (hp:0<e.size) (hle:(i+1)*e.size≤cs.length):i<xs.length:=by
 rw[RL.length (RT.length e) _ _ h] at hle
 exact Nat.le_of_mul_le_mul_right hle hp
theorem loadAV_ok (hr:Rel fr n K s a w) {t:TypeId} (hk:known P t=true) {x v:AV} (hl:loadAV P s no t x=some v) {u:Value} (hx:RV w K x u) :
  ∃r,(Instr.loadAt t u).run P w=.ok r w∧RV w K v r:=by
 have hst:∀g:Bool,isStruct P t=g→v.sh.agg=g→∀cs,RS w K v.sh v.v cs→cs.length=P.cellsOf t→∀ad:Addr,u=.pointer (some ad)→(∀j c,cs[j]?=some c→w.cell? (ad.add j)=some c) →
   ∃r,(Instr.loadAt t u).run P w=.ok r w∧RV w K v r:=by
  intro g hg hv cs hrs hlen ad hu hc
  subst hu
  have h1:isStruct P t=false→P.cellsOf t=1:=fun e=>by
   rw[←hlen,RS.length _ _ _ hrs,Sh.size_pos _ (by rw[hv,←hg,e])]
  have hrun:=run_loadVar_cells (P:=P) hk hlen h1 hc
  refine⟨_,hrun,?_⟩
  rw[hg]
  exact RV.of_cells hrs hv (fun _ _ c e=>RS.one _ _ _ hrs c (by rw[e];simp))
 obtain⟨sh,xv⟩:=x
 cases sh<;>simp only[loadAV] at hl<;>try cases hl
 case box id off =>
  split at hl
  ·rename_i c hc
   obtain⟨b,hu,hkb,hlt⟩:=RV.box hx
   obtain⟨av,bo,e1,e2,e3⟩:=hr.heap b id hlt hkb
   have:c=av:=by
    unfold heapAt at hc
    split at hc
    ·cases hc
    ·rw[e1] at hc;cases hc;rfl
   subst this
   obtain⟨cs,T,hbo,e4⟩:=BoxOk.sub hl e3;subst hbo;replace e3:=e4
   obtain⟨i1,i2,i3⟩:=Sh.sub_RS _ _ _ _ _ _ _ hl e3
   have hlen:=RS.length _ _ _ e3
   refine hst _ rfl i2 _ i1 (by rw[List.length_take,List.length_drop,hlen];omega) ⟨b,off,none⟩ hu (fun j c hj=>?_)
   rw[add_eq rfl]
   simp only[World.cell?,e2,Option.isSome_none,Bool.false_eq_true,if_false]
   rw[List.getElem?_take] at hj
   split at hj
   ·rw[List.getElem?_drop] at hj
    simpa using hj
   ·cases hj
  ·cases hl
 case ref τ off =>
  obtain⟨ad,cc,hu,h1,h2⟩:=RV.ref hx
  obtain⟨i1,i2,i3⟩:=Sh.sub_RS (.ty τ) _ _ _ _ _ _ hl h1
  have hlen:=RT.length _ _ _ h1
  refine hst _ rfl i2 _ i1 (by rw[List.length_take,List.length_drop,hlen];simp only[Sh.size] at i3;omega) (ad.add off) hu (fun j c hj=>?_)
  rw[add_add]
  refine h2.cell (off+j) c ?_
  rw[List.getElem?_take] at hj
  split at hj
  ·rw[List.getElem?_drop] at hj
   exact hj
  ·cases hj
 case wref id e =>
  split at hl
  ·rename_i hcond
   cases hl
   obtain⟨ad,cc,hu,h1,h2⟩:=RV.wref hx
   have hlen:cc.length=1:=by obtain⟨_,_,_,h,_⟩:=h1;rw[h];rfl
   exact hst false hcond.2 rfl cc h1 (hlen.trans hcond.1.symm) ad hu (fun j c hj=>h2.cell j c hj)
  ·cases hl
 case boxi id off m e =>
  split at hl
  ·rename_i c hc
   split at hl
   ·rename_i m' e' xs hsub
    split at hl
    ·rename_i he _
     subst he
     split at hl
     ·rename_i hcond
      obtain⟨c1,c2,c3⟩:=hcond
      subst c1
      cases hl
      obtain⟨b,hu,hkb,hlt,hi⟩:=RV.boxi hx
      obtain⟨av,bo,e1,e2,e3⟩:=hr.heap b id hlt hkb
      have:c=av:=by
       unfold heapAt at hc
       split at hc
       ·cases hc
       ·rw[e1] at hc;cases hc;rfl
      subst this
      obtain⟨cs,T,hbo,e4⟩:=BoxOk.sub hsub e3;subst hbo;replace e3:=e4
      obtain⟨i1,i2,i3⟩:=Sh.sub_RS _ _ _ _ _ _ _ hsub e3
      obtain⟨i4,i5⟩:=i1
      have hlen:=RS.length _ _ _ e3
      have hg:=RL.get (RT.length e) e.dflt _ _ xv i5 (by rw[i4];exact hi)
      have hmul:(xv+1)*e.size≤m'*e.size:=Nat.mul_le_mul_right _ hi
      rw[Nat.succ_mul] at hmul
      have i3':off+m'*e.size≤c.sh.size:=i3
      have hl2:(List.take e.size (List.drop (xv*e.size) (List.take (m'*e.size) (List.drop off cs.toList)))).length=P.cellsOf t:=by
       rw[List.length_take,List.length_drop,List.length_take,List.length_drop,hlen,c2]
       rw[Nat.min_eq_left (show m'*e.size≤c.sh.size-off from Nat.le_sub_of_add_le (by rw[Nat.add_comm];exact i3'))]
       exact Nat.min_eq_left (Nat.le_sub_of_add_le (by rw[Nat.add_comm];exact hmul))
      refine hst _ rfl c3.symm _ hg hl2 ⟨b,off+xv*e.size,none⟩ hu (fun j c hj=>?_)
      rw[add_eq rfl]
      simp only[World.cell?,e2,Option.isSome_none,Bool.false_eq_true,if_false]
      rw[List.getElem?_take] at hj
      split at hj
      ·rw[List.getElem?_drop,List.getElem?_take] at hj
       split at hj
       ·rw[List.getElem?_drop] at hj
        rw[Nat.add_assoc]
        simpa using hj
       ·cases hj
      ·cases hj
     ·cases hl
    ·cases hl
   ·cases hl
  ·cases hl
 case elp id e o =>
  split at hl
  ·rename_i e' xs hc
   split at hl
   ·rename_i he _
    subst he
    split at hl
    ·rename_i hpos
     obtain⟨b,hu,hkb,hlt,cs,T,e2,hle⟩:=RV.elp hx
     obtain⟨av,bo,e1,e2',e3⟩:=hr.heap b id hlt hkb
     have:av=⟨.rowc e',xs⟩:=by
      unfold heapAt at hc
      split at hc
      ·cases hc
      ·rw[e1] at hc;cases hc;rfl
     subst this
     rw[e2] at e2';cases e2'
     obtain⟨cs',T',hbo,e4⟩:=e3
     cases hbo
     have hi:xv<List.length (α:=e'.den) xs:=RL.lt e4 hpos hle
     have hg:=RL.get (RT.length e') e'.dflt _ _ xv e4 hi
     obtain⟨i1,i2,i3⟩:=Ty.sub_RT _ _ _ _ _ _ _ hl hg
     have hcl:=@Array.length_toList _ cs
     refine hst _ rfl i2 _ i1 (by rw[List.length_take,List.length_drop,List.length_take,List.length_drop,hcl];rw[Nat.succ_mul] at hle;omega) ⟨b,xv*e'.size+o,none⟩ hu (fun j c hj=>?_)
     rw[add_eq rfl]
     simp only[World.cell?,e2,Option.isSome_none,Bool.false_eq_true,if_false]
     rw[List.getElem?_take] at hj
     split at hj
     ·rw[List.getElem?_drop,List.getElem?_take] at hj
      split at hj
      ·rw[List.getElem?_drop] at hj
       rw[Nat.add_assoc]
       simpa using hj
      ·cases hj
     ·cases hj
    ·cases hl
   ·cases hl
  ·cases hl
theorem RV.solid {av:AV} {v:Value} (h:RV w K av v) (hs:av.solid=true):R1 w K av.sh av.v v:=by
 obtain⟨sh,x⟩:=av
 cases sh
 case tup=>cases hs
 case top=>cases hs
 all_goals exact h
theorem run_storeVar {t:TypeId} (hk:known P t=true) {b off:Nat} {cur:Array Value} {T:TypeId} (hb:w.heap[b]?=some (.cells cur T (0,0))) {v:Value} (hlen:v.cells.toList.length=P.cellsOf t)
  (hfit:off+P.cellsOf t≤cur.size) (h1:∀c∈v.cells.toList,c.oneCell'=true) :
  (Instr.storeAt t (.pointer (some ⟨b,off,none⟩)) v).run P w=.ok () (w.setRow b (cur.toList.take off++v.cells.toList++cur.toList.drop (off+P.cellsOf t)).toArray):=by
 have hst:=run_storeCells_at P b off T v.cells.toList 0 cur w hb (by rw[hlen];omega) h1
 simp only[Nat.add_zero,hlen] at hst
 have hsz:v.cells.size=P.cellsOf t:=by rw[←hlen];simp
 show(storeVar t ⟨b,off,none⟩ v).run P w=_
 simp only[storeVar,Sem.run_bind,run_sizeOf hk,Result.andThen_ok,hsz,ne_eq,not_true_eq_false,if_false,hst]
theorem arith1 {i m sz off len:Nat} (hi:i<m) (h:off+m*sz≤len):off+i*sz+sz≤len:=by
 have:=Nat.mul_le_mul_right sz hi
 rw[Nat.succ_mul] at this
 omega
theorem arith2 {i m sz:Nat} (hi:i<m):i*sz+sz≤m*sz:=by
 have:=Nat.mul_le_mul_right sz hi
 rw[Nat.succ_mul] at this
 omega
theorem splice {α:Type} (C V:List α) (p sz o n:Nat) (h:o+n≤sz) (hc:p+sz≤C.length) :
  C.take p++(((C.drop p).take sz).take o++V++((C.drop p).take sz).drop (o+n))++C.drop (p+sz)=C.take (p+o)++V++C.drop (p+o+n):=by
 have f1:C.take (p+o)=C.take p++(C.drop p).take o:=by rw[List.take_add]
 have f2:((C.drop p).take sz).take o=(C.drop p).take o:=by rw[List.take_take,Nat.min_eq_left (by omega)]
 have f3:=drop_mid (C.drop p) (o+n) sz h (by rw[List.length_drop];omega)
 rw[List.drop_drop,List.drop_drop] at f3
 rw[f1,f2,show p+o+n=p+(o+n) by omega,f3]
 simp[List.append_assoc]
theorem arith3 {i o n sz len:Nat} (h:(i+1)*sz≤len) (h3:o+n≤sz):i*sz+o+n≤len:=by
 rw[Nat.succ_mul] at h
 omega
theorem storeAV_ok (hr:Rel fr n K s a w) (hd:∀t,o.dst=some t→t<n) {t:TypeId} (hk:known P t=true) {x y:AV} {e:Eff} (hl:storeAV P s t x y=some e) {u v:Value} (hx:RV w K x u) (hy:RV w K y v) :
  ∃w',(Instr.storeAt t u v).run P w=.ok () w'∧Rel fr n K (s.apply o.dst e) (a.put o.dst undef) w':=by
 obtain⟨sh,xv⟩:=x
 cases sh<;>simp only[storeAV] at hl<;>try cases hl
 case box id off =>
  split at hl
  ·rename_i c hc
   split at hl
   ·rename_i hcond
    obtain⟨hsz,hsol⟩:=hcond
    obtain⟨z,hz,rfl⟩:=Option.map_eq_some_iff.1 hl
    obtain⟨b,rfl,hkb,hlt⟩:=RV.box hx
    obtain⟨av,bo,e1,e2,e3⟩:=hr.heap b id hlt hkb
    rw[hc] at e1
    cases e1
    obtain⟨cs,T,hbo,e4,e5⟩:=BoxOk.upd hz (solid_bare hsol) e3;subst hbo;replace e3:=e4
    have hy1:=RV.solid hy hsol
    obtain⟨i1,i2,i3⟩:=Sh.upd_RS _ _ _ _ _ _ _ hz e3 hy1.1
    have hlen:=RS.length _ _ _ e3
    have hylen:=RS.length _ _ _ hy1.1
    rw[hsz] at hylen i1 i3
    refine⟨_,run_storeVar (P:=P) hk e2 hylen (by rw[←Array.length_toList,hlen];exact i3) (RS.one _ _ _ hy1.1),?_⟩
    have hcl:=@Array.length_toList _ cs
    exact hr.putBox hd hlt hkb e2 (by simp only[List.size_toArray,List.length_append,List.length_take,List.length_drop];omega) (e5 _ (by simpa using i1)) undef
   ·cases hl
  ·cases hl
 case boxi id off m e' =>
  split at hl
  ·rename_i c hc
   split at hl
   ·rename_i m' e'' xs hsub
    split at hl
    ·rename_i he u' hdec hu'
     subst he
     split at hl
     ·rename_i hcond
      obtain⟨c1,c2⟩:=hcond
      subst c1
      obtain⟨z,hz,rfl⟩:=Option.map_eq_some_iff.1 hl
      obtain⟨b,rfl,hkb,hlt,hi⟩:=RV.boxi hx
      obtain⟨av,bo,e1,e2,e3⟩:=hr.heap b id hlt hkb
      rw[hc] at e1
      cases e1
      obtain⟨cs,T,hbo,e4,e5⟩:=BoxOk.upd hz rfl e3;subst hbo;replace e3:=e4
      have hv:=RV.as hy hu'
      have hvlen:=RT.length _ _ _ hv
      obtain⟨j1,j2,j3⟩:=Sh.sub_RS _ _ _ _ _ _ _ hsub e3
      obtain⟨j4,j5⟩:=j1
      have hset:=RL.set (RT.length e') _ _ xv u' _ j5 (by rw[j4];exact hi) hv
      have hnew:RS w K (.ty (.arr m' e')) (List.set xs xv u') _:=⟨by simpa using j4,hset⟩
      obtain⟨i1,i2,i3⟩:=Sh.upd_RS _ _ _ _ _ _ _ hz e3 hnew
      have hlen:=RS.length _ _ _ e3
      have hmul:=arith2 (sz:=e'.size) hi
      have j3':off+m'*e'.size≤c.sh.size:=j3
      have hfit:off+xv*e'.size+P.cellsOf t≤cs.size:=by
       rw[←Array.length_toList,hlen,c2]
       exact arith1 hi j3'
      refine⟨_,run_storeVar (P:=P) hk e2 (by rw[hvlen,c2]) hfit (RT.one _ _ _ hv),?_⟩
      have hcl:=@Array.length_toList _ cs
      refine hr.putBox hd hlt hkb e2 (by simp only[List.size_toArray,List.length_append,List.length_take,List.length_drop,hvlen];omega) (e5 _ ?_) undef
      have hsz:(Sh.ty (Ty.arr m' e')).size=m'*e'.size:=rfl
      have:(cs.toList.take (off+xv*e'.size)++v.cells.toList++cs.toList.drop (off+xv*e'.size+P.cellsOf t)) =
        List.take off cs.toList++(List.take (xv*e'.size) (List.take (m'*e'.size) (List.drop off cs.toList))++v.cells.toList++List.drop (xv*e'.size+e'.size) (List.take (m'*e'.size) (List.drop off cs.toList))) ++
         List.drop (off+(Sh.ty (Ty.arr m' e')).size) cs.toList:=by
       rw[hsz,c2]
       have f1:List.take (off+xv*e'.size) cs.toList=List.take off cs.toList++List.take (xv*e'.size) (List.drop off cs.toList):=by rw[List.take_add]
       have f2:List.take (xv*e'.size) (List.take (m'*e'.size) (List.drop off cs.toList))=List.take (xv*e'.size) (List.drop off cs.toList):=by
        rw[List.take_take,Nat.min_eq_left (Nat.le_trans (Nat.le_add_right _ _) hmul)]
       have f3:List.drop (off+xv*e'.size+e'.size) cs.toList=List.drop (xv*e'.size+e'.size) (List.take (m'*e'.size) (List.drop off cs.toList))++List.drop (off+m'*e'.size) cs.toList:=by
        have:=drop_mid (List.drop off cs.toList) (xv*e'.size+e'.size) (m'*e'.size) hmul (by rw[List.length_drop,hlen];exact Nat.le_sub_of_add_le (by rw[Nat.add_comm];exact j3'))
        rw[List.drop_drop,List.drop_drop] at this
        rw[Nat.add_assoc,this]
       rw[f1,f2,f3]
       simp[List.append_assoc]
      rw[this]
      simpa using i1
     ·cases hl
    ·cases hl
   ·cases hl
  ·cases hl
 case elp id e' o =>
  split at hl
  ·rename_i e'' xs hc
   split at hl
   ·rename_i he _
    subst he
    split at hl
    ·rename_i hcond
     obtain⟨hsz,hsol,hpos⟩:=hcond
     obtain⟨z,hz,rfl⟩:=Option.map_eq_some_iff.1 hl
     obtain⟨q,hq,hz⟩:=Option.bind_eq_some_iff.1 hz
     obtain⟨b,rfl,hkb,hlt,cs,T,e2,hle⟩:=RV.elp hx
     obtain⟨av,bo,e1,e2',e3⟩:=hr.heap b id hlt hkb
     rw[hc] at e1
     cases e1
     rw[e2] at e2';cases e2'
     obtain⟨cs',T',hbo,e4⟩:=e3
     cases hbo
     have hi:xv<List.length (α:=e''.den) xs:=RL.lt e4 hpos hle
     have hy1:=RV.solid hy hsol
     have hylen:=RS.length _ _ _ hy1.1
     rw[hsz] at hylen
     have hg:=RL.get (RT.length e'') e''.dflt _ _ xv e4 hi
     obtain⟨i1,i2,i3⟩:=Ty.upd_RT _ _ _ _ _ _ _ hq hg hy1.1
     have hnew:=as_RT _ _ _ _ _ hz i1
     have hset:=RL.set (RT.length e'') _ _ xv z _ e4 hi hnew
     have hcl:=@Array.length_toList _ cs
     rw[hsz] at i3 hset
     have hfit:=arith3 hle i3
     refine⟨_,run_storeVar (P:=P) hk e2 hylen hfit (RS.one _ _ _ hy1.1),?_⟩
     refine hr.putBox (c:=⟨.rowc e'',List.set xs xv z⟩) hd hlt hkb e2 (by simp only[List.size_toArray,List.length_append,List.length_take,List.length_drop];omega) ?_ undef
     refine⟨_,T,rfl,?_⟩
     have hcs:xv*e''.size+e''.size≤cs.toList.length:=by rw[hcl,←Nat.succ_mul];exact hle
     rw[splice cs.toList _ (xv*e''.size) e''.size o (P.cellsOf t) i3 hcs] at hset
     exact hset
    ·cases hl
   ·cases hl
  ·cases hl
theorem constAV_RS {v:Value} (h:v.oneCell'=true):RS w K (constAV v).sh (constAV v).v [v]∧(constAV v).sh.agg=false:=by
 cases v
 case int k m=>exact⟨rfl,rfl⟩
 case bool b=>exact⟨rfl,rfl⟩
 case string b=>exact⟨rfl,rfl⟩
 case agg=>cases h
 case tuple=>cases h
 all_goals exact⟨⟨rfl,rfl⟩,rfl⟩
theorem elems_RL {α:Type} {f:List Value→Option α} {R:α→List Value→Prop} {size:Nat} (hf:∀cs x,f cs=some x→R x cs):∀(m:Nat) (cs:List Value) (xs:List α),zeroAV.elems f size m cs=some xs→RL R xs cs∧xs.length=m
 |0,[],xs,h=>by simp[zeroAV.elems] at h;subst h;exact⟨rfl,rfl⟩
 |0,_::_,xs,h=>by simp[zeroAV.elems] at h
 |m+1,cs,xs,h=>by
  simp only[zeroAV.elems] at h
  split at h
  ·rename_i x l e1 e2
   cases h
   obtain⟨h1,h2⟩:=elems_RL hf m _ _ e2
   exact⟨⟨cs.take size,cs.drop size,(List.take_append_drop _ _).symm,hf _ _ e1,h1⟩,by simp[h2]⟩
  ·cases h
theorem fields_RS {f:TypeId→List Value→Nat→Option (AV×Nat)} (hf:∀t cs tag z tag',f t cs tag=some (z,tag')→RS w K z.sh z.v cs) :
  ∀(fs:List Field) (cs:List Value) (tag:Nat) (z:AV) (tag':Nat),zeroAV.fields P f fs cs tag=some (z,tag')→RS w K z.sh z.v cs∧z.sh.agg=true
 |[],[],tag,z,tag',h=>by simp[zeroAV.fields] at h;obtain⟨rfl,_⟩:=h;exact⟨rfl,rfl⟩
 |[],_::_,_,_,_,h=>by simp[zeroAV.fields] at h
 |x::fs,cs,tag,z,tag',h=>by
  simp only[zeroAV.fields] at h
  split at h
  ·rename_i b tag1 e1
   split at h
   ·rename_i b' tag2 e2
    cases h
    have h1:=hf _ _ _ _ _ e1
    have h2:=(fields_RS hf fs _ _ _ _ e2).1
    refine⟨?_,mkPair_agg _ _⟩
    have:=mkPair_RS h1 h2
    rwa [List.take_append_drop] at this
   ·cases h
  ·cases h
theorem zeroAV_RS:∀(d:Nat) (t:TypeId) (cs:List Value) (tag:Nat) (z:AV) (tag':Nat),zeroAV P d t cs tag=some (z,tag')→RS w K z.sh z.v cs∧z.sh.agg=isStruct P t
 |0,_,_,_,_,_,h=>by cases h
 |d+1,t,cs,tag,z,tag',h=>by
  have ih:=fun t cs tag z tag' h=>(zeroAV_RS d t cs tag z tag' h).1
  unfold zeroAV at h
  unfold isStruct
  split at h
  ·rename_i fs hu
   simp only[hu]
   exact fields_RS ih fs.toList cs tag z tag' h
  ·rename_i m e hu
   simp only[hu]
   split at h
   ·rename_i τ _
    obtain⟨xs,hxs,h2⟩:=Option.map_eq_some_iff.1 h
    cases h2
    obtain⟨h1,h2⟩:=elems_RL (R:=RT w K τ) (fun c x hx=>by
     obtain⟨⟨y,tg⟩,hy,hy2⟩:=Option.bind_eq_some_iff.1 hx
     exact as_RT _ _ _ _ _ hy2 (ih _ _ _ _ _ hy)) m cs xs hxs
    exact⟨⟨h2,h1⟩,rfl⟩
   ·cases h
  ·rename_i e hu
   simp only[hu]
   split at h
   ·rename_i v
    split at h
    ·rename_i hn
     have hv:=nilSl_eq hn
     subst hv
     split at h
     ·cases h
      exact⟨⟨⟨none,0,0,rfl,rfl,Nat.le_refl _,fun _=>rfl,fun a ha=>by cases ha⟩,fun A len cap hc=>by injection hc with hc;injection hc with h1;subst h1;exact .inl rfl⟩,rfl⟩
     ·cases h
      exact⟨⟨rfl,rfl⟩,rfl⟩
    ·cases h
   ·cases h
  ·rename_i h1 h2 h3
   have hs:isStruct P t=false:=by
    unfold isStruct
    split
    ·rename_i fs e;exact(h1 _ e).elim
    ·rename_i n e e';exact(h2 _ _ e').elim
    ·rfl
   show _∧_=isStruct P t
   rw[hs]
   split at h
   ·rename_i v
    split at h
    ·rename_i hv
     cases h
     exact constAV_RS hv
    ·cases h
   ·cases h
theorem zeroOf_ok {t:TypeId} {tag:Nat} {z:AV} (h:zeroOf P t tag=some z):∃i zv,P.info? t=some i∧i.zero=some zv∧∀w K,RS w K z.sh z.v zv.cells.toList∧z.sh.agg=isStruct P t:=by
 unfold zeroOf at h
 split at h
 ·rename_i zv hz
  obtain⟨i,hi,hzv⟩:=Option.bind_eq_some_iff.1 hz
  obtain⟨⟨z',tg⟩,hz',rfl⟩:=Option.map_eq_some_iff.1 h
  exact⟨i,zv,hi,hzv,fun w K=>zeroAV_RS _ _ _ _ _ _ hz'⟩
 ·cases h
theorem run_zeroValue {t:TypeId} {i:TypeInfo} {z:Value} (hi:P.info? t=some i) (hz:i.zero=some z) (w:World):(zeroValue t).run P w=.ok z w:=by
 simp[zeroValue,typeInfo,hi,hz]
theorem foldl_set (off:Nat):∀(vs:List Value) (k:Nat) (cs:Array Value),off+k+vs.length≤cs.size →
  ((vs.zipIdx k).foldl (fun cs x=>cs.setIfInBounds (off+x.2) x.1) cs).toList=cs.toList.take (off+k)++vs++cs.toList.drop (off+k+vs.length)
 |[],k,cs,_=>by simp
 |v::vs,k,cs,h=>by
  simp only[List.length_cons] at h
  simp only[List.zipIdx_cons,List.foldl_cons]
  rw[foldl_set off vs (k+1) _ (by simp;omega)]
  simp only[Array.toList_setIfInBounds,List.length_cons]
  have hlt:off+k<cs.toList.length:=by simp;omega
  rw[show off+(k+1)=off+k+1 by omega]
  have e1:(cs.toList.set (off+k) v).take (off+k+1)=cs.toList.take (off+k)++[v]:=by
   rw[List.take_add_one,List.take_set_of_le (Nat.le_refl _),List.getElem?_set_self hlt]
   rfl
  have e2:(cs.toList.set (off+k) v).drop (off+k+1+vs.length)=cs.toList.drop (off+k+(vs.length+1)):=by
   rw[List.drop_set_of_lt (by omega)]
   congr 1
   omega
  rw[e1,e2]
  simp
theorem foldl_cells (off:Nat) (v:Value) (cs:Array Value) (h:off+v.cells.size≤cs.size) :
  (v.cells.zipIdx.foldl (fun cs (c,j)=>cs.setIfInBounds (off+j) c) cs).toList=cs.toList.take off++v.cells.toList++cs.toList.drop (off+v.cells.toList.length):=by
 have:=foldl_set off v.cells.toList 0 cs (by simpa using h)
 rw[←Array.foldl_toList,Array.toList_zipIdx]
 simpa using this
theorem partsAV_ok (hr:Rel fr n K s a w) (place:Nat→Option (Nat×Nat)):∀(l:List (Nat×Operand)) (z z':AV) (cs:Array Value),partsAV place s z l=some z'→RS w K z.sh z.v cs.toList →
  ∃cells,Instr.fill place cs (l.map fun(i,x)=>(i,a.eval x))=some cells∧RS w K z'.sh z'.v cells.toList∧z'.sh.agg=z.sh.agg
 |[],z,z',cs,h,hz=>by simp only[partsAV] at h;cases h;exact⟨cs,rfl,hz,rfl⟩
 |(i,x)::l,z,z',cs,h,hz=>by
  simp only[partsAV] at h
  split at h
  ·rename_i o size hp
   split at h
   ·rename_i hc
    simp only[Bool.and_eq_true,beq_iff_eq] at hc
    obtain⟨hsol,hsz⟩:=hc
    split at h
    ·rename_i z1 hz1
     have hx:=RV.solid (opnd_RV hr x) hsol
     have hxl:=RS.length _ _ _ hx.1
     have hzl:=RS.length _ _ _ hz
     obtain⟨i1,i2,i3⟩:=Sh.upd_RS _ _ _ _ _ _ _ hz1 hz hx.1
     have hsz2:(a.eval x).cells.size=size:=by rw[←hsz,←hxl];simp
     have hfit:o+(a.eval x).cells.size≤cs.size:=by rw[hsz2,←hsz,←Array.length_toList,hzl];exact i3
     have hf:=foldl_cells o (a.eval x) cs hfit
     obtain⟨cells,c1,c2,c3⟩:=partsAV_ok hr place l z1 z' ((a.eval x).cells.zipIdx.foldl (fun cs (c,j)=>cs.setIfInBounds (o+j) c) cs) h (by rw[hf,hxl];exact i1)
     refine⟨cells,?_,c2,c3.trans i2⟩
     simp only[List.map_cons,Instr.fill,hp]
     have hno:((a.eval x).cells.size≠size||decide (o+(a.eval x).cells.size > cs.size))=false:=by
      simp only[ne_eq,hsz2,not_true_eq_false,decide_false,Bool.false_or,decide_eq_false_iff_not]
      rw[←hsz2];omega
     simp only[hno,Bool.false_eq_true,if_false]
     exact c1
    ·cases h
   ·cases h
  ·cases h
theorem run_part {t:TypeId} (hk:known P t=true) {cs:List Value} {off:Nat} (hfit:off+P.cellsOf t≤cs.length) (hg:isStruct P t=false→P.cellsOf t=1) (w:World) :
  (part t cs.toArray off).run P w=.ok (mkV (isStruct P t) ((cs.drop off).take (P.cellsOf t))) w:=by
 simp only[part,Sem.run_bind,run_isAgg hk,Result.andThen_ok,mkV]
 cases e:isStruct P t
 ·have h1:=hg e
  rw[h1] at hfit
  have hlt:off<cs.length:=by omega
  simp only[Bool.false_eq_true,if_false,List.getElem?_toArray,List.getElem?_eq_getElem hlt,h1]
  rw[List.drop_eq_getElem_cons hlt]
  rfl
 ·simp only[if_true,Sem.run_bind,run_sizeOf hk,Result.andThen_ok,Sem.run_pure,List.extract_toArray,List.extract_eq_take_drop]
  rw[Nat.add_sub_cancel_left]
theorem R1.mkV {sh:Sh} {x:sh.den} {v:Value} (h:R1 w K sh x v):v=mkV sh.agg v.cells.toList:=by
 unfold Av.mkV
 cases e:sh.agg
 ·have:=h.2.2 e
  cases v<;>first|rfl |exact(this _ rfl).elim
 ·obtain⟨c,rfl⟩:=h.2.1 e
  simp[Value.cells]
theorem toList_mk (l:List UInt8):(⟨⟨l⟩⟩:ByteArray).toList=l:=by rw[ByteArray.toList_eq]
theorem eqFields_run {d:Nat} (ih:∀(t:TypeId) (τ:Ty),eqTy P d t τ=true→∀(k:Nat) (x y:τ.den) (cs ds:List Value),RT w K τ x cs→RT w K τ y ds→(Op.equalIn (d+k) t (mkV τ.agg cs) (mkV τ.agg ds)).run P w=.ok (τ.eqb x y) w) (k:Nat) :
  ∀(fs:List Field) (τ:Ty) (off:Nat) (x y:τ.den) (cs ds cs' ds':List Value),eqTy.fields P (eqTy P d) fs off τ=true→cs.drop off=cs'→ds.drop off=ds'→off≤cs.length→off≤ds.length→RT w K τ x cs'→RT w K τ y ds' →
   (Op.eqFields (d+k) cs.toArray ds.toArray fs).run P w=.ok (τ.eqb x y) w
 |[],τ,off,x,y,cs,ds,cs',ds',h,_,_,_,_,hx,hy=>by
  cases τ<;>simp only[eqTy.fields] at h<;>try cases h
  rfl
 |f::fs,τ,off,x,y,cs,ds,cs',ds',h,e1,e2,l1,l2,hx,hy=>by
  cases τ<;>simp only[eqTy.fields] at h<;>try cases h
  rename_i ta tb
  simp only[Bool.and_eq_true,beq_iff_eq,bne_iff_ne,ne_eq] at h
  obtain⟨h1,h2,h3,h4,h5,h6,h7⟩:=h
  obtain⟨c1,c2,ec,hx1,hx2⟩:=hx
  obtain⟨d1,d2,ed,hy1,hy2⟩:=hy
  have lc1:=RT.length _ _ _ hx1
  have ld1:=RT.length _ _ _ hy1
  have lc:cs'.length=ta.size+c2.length:=by rw[ec,List.length_append,lc1]
  have ld:ds'.length=ta.size+d2.length:=by rw[ed,List.length_append,ld1]
  rw[←e1,List.length_drop] at lc
  rw[←e2,List.length_drop] at ld
  have hone:isStruct P f.type=false→P.cellsOf f.type=1:=fun e=>by rw[h4];exact Ty.size_pos _ (by rw[←h5,e])
  have p1:=run_part (cs:=cs) (off:=off) h6 (by rw[h4];omega) hone w
  have p2:=run_part (cs:=ds) (off:=off) h6 (by rw[h4];omega) hone w
  have t1:(cs.drop off).take (P.cellsOf f.type)=c1:=by rw[e1,ec,h4,←lc1];simp
  have t2:(ds.drop off).take (P.cellsOf f.type)=d1:=by rw[e2,ed,h4,←ld1];simp
  rw[t1,h5] at p1
  rw[t2,h5] at p2
  have hq:=ih _ _ h3 k x.1 y.1 c1 d1 hx1 hy1
  have hrest:=eqFields_run ih k fs tb (off+ta.size) x.2 y.2 cs ds c2 d2 h7
   (by rw[←List.drop_drop,e1,ec,←lc1];simp) (by rw[←List.drop_drop,e2,ed,←ld1];simp) (by omega) (by omega) hx2 hy2
  rw[Op.eqFields,if_pos h1]
  simp only[Sem.run_bind,h2,p1,p2,hq,Result.andThen_ok,Sem.run_ite,Sem.run_pure,hrest,Ty.eqb]
  cases ta.eqb x.1 y.1<;>simp
theorem eqItems_run {d:Nat} (ih:∀(t:TypeId) (τ:Ty),eqTy P d t τ=true→∀(k:Nat) (x y:τ.den) (cs ds:List Value),RT w K τ x cs→RT w K τ y ds→(Op.equalIn (d+k) t (mkV τ.agg cs) (mkV τ.agg ds)).run P w=.ok (τ.eqb x y) w) (k:Nat)
  {e:TypeId} {τ:Ty} (h3:eqTy P d e τ=true) (h4:P.cellsOf e=τ.size) (h5:isStruct P e=τ.agg) (h6:known P e=true) (cs ds:List Value) :
  ∀(m i:Nat) (x y:List τ.den) (cs' ds':List Value),cs.drop (i*τ.size)=cs'→ds.drop (i*τ.size)=ds'→i*τ.size≤cs.length→i*τ.size≤ds.length→RL (RT w K τ) x cs'→RL (RT w K τ) y ds'→x.length=m→y.length=m →
   (Op.eqItems (d+k) e (P.cellsOf e) cs.toArray ds.toArray (List.range' i m)).run P w=.ok (Ty.eqb.go τ.eqb x y) w
 |0,i,x,y,cs',ds',_,_,_,_,_,_,lx,ly=>by
  rw[List.length_eq_zero_iff.1 lx,List.length_eq_zero_iff.1 ly]
  rfl
 |m+1,i,[],y,cs',ds',_,_,_,_,_,_,lx,ly=>by cases lx
 |m+1,i,_::_,[],cs',ds',_,_,_,_,_,_,lx,ly=>by cases ly
 |m+1,i,x::xs,y::ys,cs',ds',e1,e2,l1,l2,hx,hy,lx,ly=>by
  obtain⟨c1,c2,ec,hx1,hx2⟩:=hx
  obtain⟨d1,d2,ed,hy1,hy2⟩:=hy
  have lc1:=RT.length _ _ _ hx1
  have ld1:=RT.length _ _ _ hy1
  have lc:cs'.length=τ.size+c2.length:=by rw[ec,List.length_append,lc1]
  have ld:ds'.length=τ.size+d2.length:=by rw[ed,List.length_append,ld1]
  rw[←e1,List.length_drop] at lc
  rw[←e2,List.length_drop] at ld
  have hone:isStruct P e=false→P.cellsOf e=1:=fun hh=>by rw[h4];exact Ty.size_pos _ (by rw[←h5,hh])
  have p1:=run_part (cs:=cs) (off:=i*τ.size) h6 (by rw[h4];omega) hone w
  have p2:=run_part (cs:=ds) (off:=i*τ.size) h6 (by rw[h4];omega) hone w
  have t1:(cs.drop (i*τ.size)).take (P.cellsOf e)=c1:=by rw[e1,ec,h4,←lc1];simp
  have t2:(ds.drop (i*τ.size)).take (P.cellsOf e)=d1:=by rw[e2,ed,h4,←ld1];simp
  rw[t1,h5] at p1
  rw[t2,h5] at p2
  have hq:=ih _ _ h3 k x y c1 d1 hx1 hy1
  have hs:(i+1)*τ.size=i*τ.size+τ.size:=Nat.succ_mul _ _
  have hrest:=eqItems_run ih k h3 h4 h5 h6 cs ds m (i+1) xs ys c2 d2
   (by rw[hs,←List.drop_drop,e1,ec,←lc1];simp) (by rw[hs,←List.drop_drop,e2,ed,←ld1];simp) (by omega) (by omega) hx2 hy2 (by simpa using lx) (by simpa using ly)
  rw[List.range'_succ,Op.eqItems]
  simp only[Sem.run_bind,h4,p1,p2,hq,Result.andThen_ok,Ty.eqb.go]
  rw[h4] at hrest
  cases τ.eqb x y
  ·simp
  ·simpa using hrest
theorem eqTy_run:∀(d:Nat) (t:TypeId) (τ:Ty),eqTy P d t τ=true→∀(k:Nat) (x y:τ.den) (cs ds:List Value),RT w K τ x cs→RT w K τ y ds →
  (Op.equalIn (d+k) t (mkV τ.agg cs) (mkV τ.agg ds)).run P w=.ok (τ.eqb x y) w
 |0,_,_,h,_,_,_,_,_,_,_=>by cases h
 |d+1,t,τ,h,k,x,y,cs,ds,hx,hy=>by
  unfold eqTy at h
  rw[show d+1+k=d+k+1 by omega]
  split at h
  ·rename_i k1 k2 hu
   rw[show cs=_ from hx,show ds=_ from hy]
   exact run_equalIn_int w _ _ _ _ _ _ hu
  ·rename_i hu
   rw[show cs=_ from hx,show ds=_ from hy]
   exact run_equalIn_bool w _ _ _ _ hu
  ·rename_i hu
   rw[show cs=_ from hx,show ds=_ from hy]
   have:=run_equalIn_string (P:=P) w (d+k) t ⟨⟨x⟩⟩ ⟨⟨y⟩⟩ hu
   rw[toList_mk,toList_mk] at this
   exact this
  ·rename_i τ _ _ fs hu
   simp only[Bool.and_eq_true,Bool.not_eq_true'] at h
   obtain⟨h1,h2⟩:=h
   have hfs:P.fieldsOf t=fs:=by simp[Program.fieldsOf,hu]
   have hagg:τ.agg=true:=by
    generalize fs.toList=l at h2
    cases l<;>cases τ<;>first|rfl |(simp[eqTy.fields] at h2;done)
   have:=run_equalIn_agg (P:=P) w (d+k) t cs.toArray ds.toArray (by rw[hfs,hu]) h1
   unfold mkV
   rw[hagg]
   simp only[if_true]
   rw[this,hfs]
   exact eqFields_run (fun t τ hh=>eqTy_run d t τ hh) k fs.toList τ 0 x y cs ds cs ds h2 rfl rfl (Nat.zero_le _) (Nat.zero_le _) hx hy
  ·rename_i n e m τe hu
   simp only[Bool.and_eq_true,beq_iff_eq] at h
   obtain⟨hn,h3,h4,h5,h6⟩:=h
   subst hn
   have hinfo:∃i,P.info? e=some i:=by
    unfold known at h6
    obtain⟨de,hde⟩:=Option.isSome_iff_exists.1 h6
    exact info_of_underlying hde
   obtain⟨i,hi⟩:=hinfo
   have:=run_equalIn_array (P:=P) w (d+k) cs.toArray ds.toArray hu hi
   unfold mkV
   simp only[Ty.agg,if_true]
   rw[this,List.range_eq_range']
   exact eqItems_run (fun t τ hh=>eqTy_run d t τ hh) k h3 h4 h5 h6 cs ds n 0 x y cs ds (by simp) (by simp) (by simp) (by simp) hx.2 hy.2 hx.1 hy.1
  ·cases h
def binRun (P:Program) (op:BinOp) (t:TypeId) (x y:Operand) (u v:Value) (w:World):Result Value :=
 (do eqGuard op t x y u v;binOp op t u v:Sem Value).run P w
theorem intOp_ok {op:BinOp} {k k':IntKind} {m m':Int} {c:Bool} {r:AV} (h:intOp op k m k' m'=some (c,r)) (hc:c=true) (t:TypeId) (x y:Operand) :
  ∃v,binRun P op t x y (.int k m) (.int k' m') w=.ok v w∧RV w K r v:=by
 subst hc
 have sc:∀(k:IntKind) (m:Int),RV w K (.int k m) (.int k m):=fun k m=>RV.scalar (av:=.int k m) rfl rfl rfl
 have sb:∀(b:Bool),RV w K (.bool b) (.bool b):=fun b=>RV.scalar (av:=.bool b) rfl rfl rfl
 cases op
 case shl =>
  simp only[intOp,Option.some.injEq,Prod.mk.injEq,Bool.not_eq_true',decide_eq_false_iff_not] at h
  obtain⟨h1,rfl⟩:=h
  exact⟨_,by simp[binRun,eqGuard,binOp,Op.shift,h1]<;>rfl,sc _ _⟩
 case shr =>
  simp only[intOp,Option.some.injEq,Prod.mk.injEq,Bool.not_eq_true',decide_eq_false_iff_not] at h
  obtain⟨h1,rfl⟩:=h
  exact⟨_,by simp[binRun,eqGuard,binOp,Op.shift,h1]<;>rfl,sc _ _⟩
 case quo =>
  simp only[intOp] at h
  split at h
  ·rename_i e
   subst e
   simp only[Option.some.injEq,Prod.mk.injEq,Bool.not_eq_true',decide_eq_false_iff_not] at h
   obtain⟨h1,rfl⟩:=h
   exact⟨_,by simp[binRun,eqGuard,binOp,Op.intDiv,h1]<;>rfl,sc _ _⟩
  ·cases h
 case rem =>
  simp only[intOp] at h
  split at h
  ·rename_i e
   subst e
   simp only[Option.some.injEq,Prod.mk.injEq,Bool.not_eq_true',decide_eq_false_iff_not] at h
   obtain⟨h1,rfl⟩:=h
   exact⟨_,by simp[binRun,eqGuard,binOp,Op.intDiv,h1]<;>rfl,sc _ _⟩
  ·cases h
 all_goals
  simp only[intOp] at h
  split at h
  ·rename_i e
   subst e
   cases h
   first
    |exact⟨_,by simp[binRun,eqGuard,binOp,Op.intArith]<;>rfl,sc _ _⟩
    |exact⟨_,by simp[binRun,eqGuard,binOp,Op.intBits]<;>rfl,sc _ _⟩
    |exact⟨_,by simp[binRun,eqGuard,binOp,Op.intCmp]<;>rfl,sb _⟩
  ·cases h
theorem strOp_ok {op:BinOp} {m m':List UInt8} {c:Bool} {r:AV} (h:strOp op m m'=some (c,r)) (hc:c=true) (t:TypeId) (x y:Operand) :
  ∃v,binRun P op t x y (.string ⟨⟨m⟩⟩) (.string ⟨⟨m'⟩⟩) w=.ok v w∧RV w K r v:=by
 subst hc
 have sb:∀(b:Bool),RV w K (.bool b) (.bool b):=fun b=>RV.scalar (av:=.bool b) rfl rfl rfl
 cases op<;>simp only[strOp] at h<;>try cases h
 case add =>
  simp only[Option.some.injEq,Prod.mk.injEq,Nat.ble_eq] at h
  obtain⟨h1,rfl⟩:=h
  refine⟨.string ⟨⟨m++m'⟩⟩,?_,RV.scalar (av:=.str _) rfl rfl rfl⟩
  have hs:¬(((m.length+m'.length:Nat):Int) > IntKind.i64.max):=by
   have:IntKind.i64.max=9223372036854775807:=by decide
   rw[this];omega
  have hcat:(⟨⟨m⟩⟩:ByteArray)++⟨⟨m'⟩⟩=⟨⟨m++m'⟩⟩:=by
   apply ByteArray.ext
   simp
  have hsz:∀l:List UInt8,(⟨⟨l⟩⟩:ByteArray).size=l.length:=fun l=>rfl
  simp only[binRun,eqGuard,binOp,Op.stringOp,hsz,hs,if_false,hcat]
  rfl
 case eql=>exact⟨.bool (m==m'),by simp only[binRun,eqGuard,binOp,Op.stringOp,toList_mk];rfl,sb _⟩
 case neq=>exact⟨.bool (!(m==m')),by simp only[binRun,eqGuard,binOp,Op.stringOp,toList_mk];rfl,sb _⟩
 case lss=>exact⟨.bool (Op.bytesLess m m'),by simp only[binRun,eqGuard,binOp,Op.stringOp,toList_mk];rfl,sb _⟩
theorem as_agg:∀(s:Sh) (x:s.den) (t:Ty) (y:t.den),s.as x t=some y→s.agg=t.agg:=by
 intro s x t y h
 cases s
 case ty s =>
  simp only[Sh.as] at h
  split at h
  ·rename_i e _;subst e;rfl
  ·cases h
 case pair a b=>cases t<;>first|rfl |cases h
 case osl id e=>cases t<;>first|rfl |cases h
 case lit v=>cases t<;>first|rfl |cases h
 case fn f caps=>cases t<;>first|rfl |cases h
 all_goals cases t<;>cases h
theorem RV.as_mk {av:AV} {t:Ty} {x:t.den} {v:Value} (h:RV w K av v) (ha:av.as t=some x):v=mkV t.agg v.cells.toList∧RT w K t x v.cells.toList:=by
 refine⟨?_,h.as ha⟩
 rw[←as_agg _ _ _ _ ha]
 obtain⟨sh,y⟩:=av
 cases sh
 case tup=>cases t<;>cases ha
 case top=>cases t<;>cases ha
 all_goals exact R1.mkV h
theorem run_ptr_r {t e:TypeId} (he:P.underlying t=some (.pointer e)) (d:Nat) (p:Option Addr) (w:World):(Op.equalIn (d+1) t (.pointer p) (.pointer none)).run P w=.ok p.isNone w:=by
 cases p<;>simp[Op.equalIn,run_underlying he]
theorem run_ptr_l {t e:TypeId} (he:P.underlying t=some (.pointer e)) (d:Nat) (p:Option Addr) (w:World):(Op.equalIn (d+1) t (.pointer none) (.pointer p)).run P w=.ok p.isNone w:=by
 cases p<;>simp[Op.equalIn,run_underlying he]
theorem eqOp_ok (heqs:eqs.all (eqOk P)=true) {t:TypeId} {x y:AV} {b:Bool} (h:eqOp P eqs t x y=some b) {u v:Value} (hu:RV w K x u) (hv:RV w K y v) (op:BinOp) (hop:op=.eql∨op=.neq) (x' y':Operand) :
  binRun P op t x' y' u v w=.ok (.bool (if op=.eql then b else !b)) w:=by
 have ptr:∀(p q:Option Addr) (b:Bool) (e:TypeId),P.underlying t=some (.pointer e)→(p=none∨q=none)→b=(p.isNone&&q.isNone)→binRun P op t x' y' (.pointer p) (.pointer q) w=.ok (.bool (if op=.eql then b else !b)) w:=by
  intro p q b e he hpq hb
  subst hb
  have h0:(Op.equal t (.pointer p) (.pointer q)).run P w=.ok (p.isNone&&q.isNone) w:=by
   rcases hpq with rfl |rfl
   ·exact run_ptr_l he 9999 q w
   ·rw[Option.isNone_none,Bool.and_true]
    exact run_ptr_r he 9999 p w
  rcases hop with rfl |rfl
  ·have e1:binRun P .eql t x' y' (.pointer p) (.pointer q) w=((Op.equal t (.pointer p) (.pointer q)).run P w).andThen fun b w'=>.ok (.bool b) w':=by
    simp[binRun,eqGuard,binOp]
   rw[e1,h0]
   rfl
  ·have e1:binRun P .neq t x' y' (.pointer p) (.pointer q) w=((Op.equal t (.pointer p) (.pointer q)).run P w).andThen fun b w'=>.ok (.bool !b) w':=by
    simp[binRun,eqGuard,binOp]
   rw[e1,h0]
   rfl
 unfold eqOp at h
 split at h
 ·rename_i a c
  split at h
  ·rename_i hb
   cases h
   have hb':P.underlying t=some .bool:=by
    generalize P.underlying t=z at hb
    cases z with
    |none=>cases hb
    |some d=>cases d<;>first|rfl |cases hb
   rw[RV.bool hu,RV.bool hv]
   rcases hop with rfl |rfl
   ·have:=run_eql_bool (P:=P) w t a c hb'
    simp[binRun,eqGuard,this]
   ·have:=run_neq_bool (P:=P) w t a c hb'
    simp[binRun,eqGuard,this]
  ·cases h
 ·split at h
  ·rename_i hb
   cases h
   obtain⟨e,he⟩:∃e,P.underlying t=some (.pointer e):=by
    generalize P.underlying t=z at hb
    cases z with
    |none=>cases hb
    |some d=>cases d<;>first|exact⟨_,rfl⟩ |cases hb
   obtain⟨bb,rfl,_⟩:=RV.box hu
   rw[RV.lit hv]
   exact ptr _ _ _ e he (.inr rfl) rfl
  ·cases h
 ·split at h
  ·rename_i hb
   cases h
   obtain⟨e,he⟩:∃e,P.underlying t=some (.pointer e):=by
    generalize P.underlying t=z at hb
    cases z with
    |none=>cases hb
    |some d=>cases d<;>first|exact⟨_,rfl⟩ |cases hb
   obtain⟨bb,rfl,_⟩:=RV.box hv
   rw[RV.lit hu]
   exact ptr _ _ _ e he (.inl rfl) rfl
  ·cases h
 ·split at h
  ·rename_i hb
   cases h
   obtain⟨e,he⟩:∃e,P.underlying t=some (.pointer e):=by
    generalize P.underlying t=z at hb
    cases z with
    |none=>cases hb
    |some d=>cases d<;>first|exact⟨_,rfl⟩ |cases hb
   rw[RV.lit hu,RV.lit hv]
   exact ptr _ _ _ e he (.inl rfl) rfl
  ·cases h
 ·split at h
  ·rename_i hb
   cases h
   obtain⟨e,he⟩:∃e,P.underlying t=some (.pointer e):=by
    generalize P.underlying t=z at hb
    cases z with
    |none=>cases hb
    |some d=>cases d<;>first|exact⟨_,rfl⟩ |cases hb
   obtain⟨ad,cc,rfl,_⟩:=RV.ref hu
   rw[RV.lit hv]
   exact ptr _ _ _ e he (.inr rfl) rfl
  ·cases h
 ·split at h
  ·rename_i hmem
   split at h
   ·rename_i τ hτ
    split at h
    ·rename_i a c e1 e2
     cases h
     have hok:=List.all_eq_true.1 heqs t (by simpa using hmem)
     simp only[eqOk,hτ,Bool.and_eq_true,Bool.not_eq_true'] at hok
     obtain⟨h1,h2,h3⟩:=hok
     obtain⟨hu1,hu2⟩:=RV.as_mk hu e1
     obtain⟨hv1,hv2⟩:=RV.as_mk hv e2
     have hq:=eqTy_run (w:=w) (K:=K) tyDepth t τ h2 (10000-tyDepth) a c _ _ hu2 hv2
     rw[←hu1,←hv1] at hq
     rw[h3] at hu1 hv1
     simp only[mkV,if_true] at hu1 hv1
     rw[hu1,hv1] at hq
     rw[hu1,hv1]
     have hq':(Op.equalIn 10000 t (.agg u.cells.toList.toArray) (.agg v.cells.toList.toArray)).run P w=.ok (τ.eqb a c) w:=hq
     have hg:=run_eqGuard_agg (P:=P) w op t x' y' u.cells.toList.toArray v.cells.toList.toArray h1
     rcases hop with rfl |rfl
     ·have:=run_eql_struct (P:=P) w t u.cells.toList.toArray v.cells.toList.toArray
      rw[hq'] at this
      simp only[binRun,Sem.run_bind,hg,Result.andThen_ok,this,if_true]
     ·have:=run_neq_struct (P:=P) w t u.cells.toList.toArray v.cells.toList.toArray
      rw[hq'] at this
      simp only[binRun,Sem.run_bind,hg,Result.andThen_ok,this]
      rfl
    ·cases h
   ·cases h
  ·cases h
theorem binAV_ok (heqs:eqs.all (eqOk P)=true) {op:BinOp} {t:TypeId} {x y r:AV} {c:Bool} (h:binAV P eqs op t x y=some (c,r)) (hc:c=true) {u v:Value} (hu:RV w K x u) (hv:RV w K y v) (x' y':Operand) :
  ∃z,binRun P op t x' y' u v w=.ok z w∧RV w K r z:=by
 unfold binAV at h
 split at h
 ·rw[RV.int hu,RV.int hv]
  exact intOp_ok h hc t x' y'
 ·rw[RV.str hu,RV.str hv]
  exact strOp_ok h hc t x' y'
 ·split at h
  ·obtain⟨b,hb,e⟩:=Option.map_eq_some_iff.1 h
   cases e
   exact⟨_,eqOp_ok heqs hb hu hv .eql (.inl rfl) x' y',RV.scalar (av:=.bool b) rfl rfl rfl⟩
  ·obtain⟨b,hb,e⟩:=Option.map_eq_some_iff.1 h
   cases e
   exact⟨_,eqOp_ok heqs hb hu hv .neq (.inr rfl) x' y',RV.scalar (av:=.bool _) rfl rfl rfl⟩
  ·cases h
theorem unAV_ok {op:UnOp} {x r:AV} (h:unAV op x=some r) {u:Value} (hu:RV w K x u):∃z,(Op.unary op u).run P w=.ok z w∧RV w K r z:=by
 unfold unAV at h
 split at h
 ·cases h
  rw[RV.int hu]
  exact⟨_,rfl,RV.scalar (av:=.int _ _) rfl rfl rfl⟩
 ·cases h
  rw[RV.int hu]
  exact⟨_,rfl,RV.scalar (av:=.int _ _) rfl rfl rfl⟩
 ·cases h
  rw[RV.bool hu]
  exact⟨_,rfl,RV.scalar (av:=.bool _) rfl rfl rfl⟩
 ·cases h
theorem bytes_cells {xs:List Int}:∀{cc:List Value},RL (RT w K (.int .u8)) xs cc→cc=xs.map (Value.int .u8):=by
 induction xs with
 |nil=>intro cc h;exact h
 |cons x xs ih =>
  intro cc h
  obtain⟨c1,c2,e,h1,h2⟩:=h
  rw[e,show c1=[.int .u8 x] from h1,ih h2]
  rfl
theorem bytesAV_ok {x:AV} {xs:List Int} (h:bytesAV x=some xs) {u:Value} (hu:RV w K x u):∃A len cap,u=.slice A len cap∧len=xs.length∧(A=none→cap=0)∧len≤cap∧∀a,A=some a→At w K a (xs.map (Value.int .u8)):=by
 have fin:∀(A:Option Addr) (len cap:Nat),RT w K (.sl (.int .u8)) xs [.slice A len cap]→u=.slice A len cap→∃A len cap,u=.slice A len cap∧len=xs.length∧(A=none→cap=0)∧len≤cap∧∀a,A=some a→At w K a (xs.map (Value.int .u8)):=fun A len cap hr hv=>by
  obtain⟨A',len',cap',e,h2,h3,h4,h5⟩:=hr
  simp only[List.cons.injEq,Value.slice.injEq,and_true] at e
  obtain⟨rfl,rfl,rfl⟩:=e
  refine⟨_,_,_,hv,h2,h4,h3,fun a ha=>?_⟩
  obtain⟨cc,k1,k2⟩:=h5 a ha
  rw[←bytes_cells k1]
  exact k2
 unfold bytesAV at h
 split at h
 ·cases h
  obtain⟨A,len,cap,hv,hr⟩:=RV.sl hu
  exact fin A len cap hr hv
 ·cases h
  obtain⟨A,len,cap,hv,hr,_⟩:=RV.osl hu
  exact fin A len cap hr hv
 ·cases h
theorem convAV_ok {src dst:TypeId} {x r:AV} (h:convAV P src dst x=some r) {u:Value} (hu:RV w K x u):∃z,(convert src dst u).run P w=.ok z w∧RV w K r z:=by
 unfold convAV at h
 split at h
 ·rename_i d k k' a h1 h2
  cases h
  rw[RV.int hu]
  refine⟨.int k (k.wrap a),?_,RV.scalar (av:=.int _ _) rfl rfl rfl⟩
  simp[convert,run_underlying h1,run_underlying h2,Conv.intToInt]
 ·rename_i d a h1 h2
  cases h
  rw[RV.str hu]
  refine⟨.string ⟨⟨a⟩⟩,?_,RV.scalar (av:=.str _) rfl rfl rfl⟩
  simp[convert,run_underlying h1,run_underlying h2]
 ·rename_i x0 e h1 h2 hne
  split at h
  ·rename_i hb
   obtain⟨xs,hxs,e'⟩:=Option.map_eq_some_iff.1 h
   cases e'
   have he:P.underlying e=some (.int .u8):=by
    unfold isBytes at hb
    split at hb
    ·rename_i hh;exact hh
    ·cases hb
   obtain⟨A,len,cap,rfl,hlen,hnil,hle,hat⟩:=bytesAV_ok hxs hu
   refine⟨.string ⟨⟨xs.map toByte⟩⟩,?_,RV.scalar (av:=.str _) rfl rfl rfl⟩
   rw[run_convert_bytes_string w src dst e A len cap h1 he h2]
   cases A with
   |none =>
    have:xs=[]:=List.length_eq_zero_iff.1 (by have:=hnil rfl;omega)
    subst this
    simp[Conv.bytesToString]
    rfl
   |some a =>
    have hl:(loadCells a len).run P w=.ok (xs.map (Value.int .u8)).toArray w:=by
     have:=run_loadCells_list (P:=P) w a (xs.map (Value.int .u8)) (fun j v hj=>by
      obtain⟨q1,q2,_⟩:=hat a rfl j v hj
      rw[add_eq q1]
      exact q2)
     simpa [hlen] using this
    rw[run_bytesToString w a len cap xs hl,foldl_push_bytes]
    simp[ByteArray.empty,ByteArray.emptyWithCapacity]
    rfl
  ·cases h
 ·cases h
theorem natOf_ok {x:AV} {i:Int} (h:natOf x=some i) {u:Value} (hu:RV w K x u):∃k,u=.int k i:=by
 unfold natOf at h
 split at h
 ·cases h;exact⟨_,RV.int hu⟩
 ·cases h
theorem At.add {a:Addr} {cc:List Value} (h:At w K a cc) (j m:Nat):At w K (a.add j) ((cc.drop j).take m):=by
 intro i v hi
 rw[List.getElem?_take] at hi
 split at hi
 ·rw[List.getElem?_drop] at hi
  obtain⟨h1,h2,h3⟩:=h (j+i) v hi
  rw[add_eq h1]
  exact⟨rfl,by rw[Nat.add_assoc];exact h2,by rw[Nat.add_assoc];exact h3⟩
 ·cases hi
theorem RT_slice {e:Ty} {xs:List e.den} {A:Option Addr} {len cap:Nat} (h:RT w K (.sl e) xs [.slice A len cap]) {l m:Nat} (h1:l≤m) (h2:m≤xs.length) :
  RT w K (.sl e) ((xs.take m).drop l) [.slice (if cap=l then A else A.map (·.add (l*e.size))) (m-l) (cap-l)]:=by
 obtain⟨A',len',cap',he,h3,h4,h5,h6⟩:=h
 injection he with he _
 injection he with e1 e2 e3
 subst e1 e2 e3
 have hlen:((xs.take m).drop l).length=m-l:=by rw[List.length_drop,List.length_take,Nat.min_eq_left h2]
 refine⟨_,_,_,rfl,hlen.symm,by omega,fun hn=>?_,fun ad had=>?_⟩
 ·split at hn
  ·omega
  ·cases A with
   |none=>have:=h5 rfl;omega
   |some a=>cases hn
 ·split at had
  ·rename_i hcl
   subst hcl
   have hnil:(xs.take m).drop cap=[]:=List.length_eq_zero_iff.1 (by omega)
   rw[hnil]
   exact⟨[],rfl,fun j v hj=>by simp at hj⟩
  ·cases A with
   |none=>cases had
   |some a =>
    cases had
    obtain⟨cc,k1,k2⟩:=h6 a rfl
    have s1:=RL.split (RT.length e) xs cc m k1 h2
    have s2:=RL.split (RT.length e) (xs.take m) _ l s1.1 (by rw[List.length_take,Nat.min_eq_left h2];exact h1)
    refine⟨_,s2.2,?_⟩
    rw[List.drop_take]
    exact k2.add _ _
theorem Own_slice {id sz:Nat} {A:Option Addr} {len cap l:Nat} (h:Own w K id sz A len cap) (hl:l≤len) (hc:len≤cap) :
  Own w K id sz (if cap=l then A else A.map (·.add (l*sz))) (len-l) (cap-l):=by
 rcases h with h |h |⟨a,ha,hs,hk,arr,T,hh,hle⟩
 ·subst h
  exact .inl (by split<;>rfl)
 ·exact .inr (.inl (by omega))
 ·by_cases e:cap=l
  ·exact .inr (.inl (by omega))
  ·rw[if_neg e]
   subst ha
   refine .inr (.inr ⟨a.add (l*sz),rfl,?_,?_,arr,T,?_,?_⟩)
   ·rw[add_eq hs]
   ·rw[add_eq hs]
    rw[hk]
    congr 1
    have:l*sz+(len-l)*sz=len*sz:=by rw[←Nat.add_mul];congr 1;omega
    show a.off+len*sz=a.off+l*sz+(len-l)*sz
    omega
   ·rw[add_eq hs];exact hh
   ·rw[add_eq hs]
    have:l*sz+(cap-l)*sz=cap*sz:=by rw[←Nat.add_mul];congr 1;omega
    show a.off+l*sz+(cap-l)*sz≤arr.size
    omega
theorem sliceBound_ok {x:AV} {i:Int} (hn:natOf x=some i) {u:Value} (hu:RV w K x u) {y:Nat} (code:BoundsCode) (h0:0≤i) (h1:i≤y):(Instr.sliceBound u y code).run P w=.ok i.toNat w:=by
 obtain⟨k,rfl⟩:=natOf_ok hn hu
 simp[Instr.sliceBound,asIntOf,h0,h1]
def optRV (w:World) (K:Kinds):Option AV→Option Value→Prop
 |none,none=>True
 |some x,some u=>RV w K x u
 |_,_=>False
theorem bounds_ok {lo hi:Option AV} {u v:Option Value} (hu:optRV w K lo u) (hv:optRV w K hi v) {len cap:Nat} {l h:Int} (hl:lo.elim (some (0:Int)) natOf=some l) (hh:hi.elim (some ((len:Nat):Int)) natOf=some h)
  (h1:0≤h) (h2:h≤len) (h3:0≤l) (h4:l≤h) (hc:len≤cap) (b:Bool):(Instr.sliceBounds b len cap u v none).run P w=.ok (l.toNat,h.toNat,cap) w:=by
 cases hi with
 |none =>
  cases v with
  |some v=>exact hv.elim
  |none =>
   simp at hh
   subst hh
   cases lo with
   |none =>
    cases u with
    |some u=>exact hu.elim
    |none =>
     simp at hl
     subst hl
     simp[Instr.sliceBounds]
   |some x =>
    cases u with
    |none=>exact hu.elim
    |some u =>
     have:=sliceBound_ok (P:=P) (y:=len) hl hu .sliceB h3 (by omega)
     simp[Instr.sliceBounds,this]
 |some y =>
  cases v with
  |none=>exact hv.elim
  |some v =>
   have g1:=sliceBound_ok (P:=P) (y:=cap) hh hv (if b then .sliceAcap else .sliceAlen) h1 (by omega)
   cases lo with
   |none =>
    cases u with
    |some u=>exact hu.elim
    |none =>
     simp at hl
     subst hl
     simp[Instr.sliceBounds,g1]
   |some x =>
    cases u with
    |none=>exact hu.elim
    |some u =>
     have:=sliceBound_ok (P:=P) (y:=h.toNat) hl hu .sliceB h3 (by omega)
     simp[Instr.sliceBounds,g1,this]
theorem extract_mk (s:List UInt8) (l h:Nat):(⟨⟨s⟩⟩:ByteArray).extract l h=⟨⟨(s.take h).drop l⟩⟩:=by
 apply ByteArray.ext
 rw[ByteArray.data_extract]
 simp[List.extract_eq_take_drop,List.drop_take]
theorem sliceAt_str {t:TypeId} (ht:P.underlying t=some .string) {s:List UInt8} {lo hi:Option AV} {u v:Option Value} (hu:optRV w K lo u) (hv:optRV w K hi v) {c:Bool} {r:AV}
  (h:sliceAV (.str s) lo hi=some (c,r)) (hc:c=true):∃z,(Instr.sliceAt t (.string ⟨⟨s⟩⟩) u v none).run P w=.ok z w∧RV w K r z:=by
 subst hc
 simp only[sliceAV] at h
 split at h
 ·rename_i l h' e1 e2
  simp only[Option.some.injEq,Prod.mk.injEq,Bool.and_eq_true,decide_eq_true_eq] at h
  obtain⟨⟨⟨⟨h1,h2⟩,h3⟩,h4⟩,rfl⟩:=h
  have hb:=bounds_ok (P:=P) hu hv e1 e2 h1 h2 h3 h4 (Nat.le_refl _) false
  refine⟨_,?_,RV.scalar (av:=.str _) rfl rfl rfl⟩
  have hsz:(⟨⟨s⟩⟩:ByteArray).size=s.length:=rfl
  simp[Instr.sliceAt,Instr.slice,run_underlying ht,hsz,hb,extract_mk]
 ·cases h
theorem sliceAt_sl {t el:TypeId} (ht:P.underlying t=some (.slice el)) (hk:known P el=true) {e:Ty} (hsz:P.cellsOf el=e.size) {x:AV} {xs:List e.den} (hx:asSl x=some ⟨e,xs⟩) {uv:Value} (hxv:RV w K x uv)
  {lo hi:Option AV} {u v:Option Value} (hu:optRV w K lo u) (hv:optRV w K hi v) {c:Bool} {r:AV} (h:sliceAV x lo hi=some (c,r)) (hc:c=true) :
  ∃z,(Instr.sliceAt t uv u v none).run P w=.ok z w∧RV w K r z:=by
 subst hc
 have key:∀(A:Option Addr) (len cap:Nat),RT w K (.sl e) xs [.slice A len cap]→∀(l h:Int),lo.elim (some (0:Int)) natOf=some l→hi.elim (some ((xs.length:Nat):Int)) natOf=some h→0≤h→h≤xs.length→0≤l→l≤h →
   (Instr.sliceAt t (.slice A len cap) u v none).run P w=.ok (.slice (if cap=l.toNat then A else A.map (·.add (l.toNat*e.size))) (h.toNat-l.toNat) (cap-l.toNat)) w ∧
   RT w K (.sl e) ((xs.take h.toNat).drop l.toNat) [.slice (if cap=l.toNat then A else A.map (·.add (l.toNat*e.size))) (h.toNat-l.toNat) (cap-l.toNat)]:=by
  intro A len cap hr l h hl hh h1 h2 h3 h4
  have hr':=hr
  obtain⟨A',len',cap',he,g1,g2,g3,g4⟩:=hr
  injection he with he _
  injection he with q1 q2 q3
  subst q1 q2 q3
  have hb:=bounds_ok (P:=P) hu hv hl (by rw[g1];exact hh) h1 (by rw[g1];exact h2) h3 h4 g2 true
  refine⟨?_,RT_slice hr' (by omega) (by omega)⟩
  have hs:=run_sizeOf hk w
  rw[hsz] at hs
  simp[Instr.sliceAt,Instr.slice,run_underlying ht,hb,hs]
 obtain⟨sh,xv⟩:=x
 cases sh<;>simp only[asSl] at hx<;>try cases hx
 case ty τ =>
  cases τ<;>simp only[] at hx<;>try cases hx
  simp only[sliceAV] at h
  split at h
  ·rename_i l h' e1 e2
   simp only[Option.some.injEq,Prod.mk.injEq,Bool.and_eq_true,decide_eq_true_eq] at h
   obtain⟨⟨⟨⟨h1,h2⟩,h3⟩,h4⟩,rfl⟩:=h
   obtain⟨A,len,cap,rfl,hr⟩:=RV.sl hxv
   obtain⟨k1,k2⟩:=key A len cap hr l h' e1 e2 h1 h2 h3 h4
   exact⟨_,k1,RV.scalar (av:=⟨.ty (.sl _),_⟩) k2 rfl rfl⟩
  ·cases h
 case osl id =>
  obtain⟨A,len,cap,rfl,hr,hown⟩:=RV.osl hxv
  simp only[sliceAV] at h
  split at h
  ·split at h
   ·rename_i l e1
    simp only[Option.some.injEq,Prod.mk.injEq,inRange,Bool.and_eq_true,decide_eq_true_eq] at h
    obtain⟨⟨h1,h2⟩,rfl⟩:=h
    obtain⟨k1,k2⟩:=key A len cap hr l _ e1 rfl (by omega) (by omega) h1 (by omega)
    have hr':=hr
    obtain⟨A',len',cap',he,g1,g2,g3,g4⟩:=hr'
    injection he with he _
    injection he with q1 q2 q3
    subst q1 q2 q3
    refine⟨_,k1,R1.toRV (a:=⟨.osl id _,_⟩) ⟨⟨?_,?_⟩,(fun e=>nomatch e),(fun _ c e=>nomatch e)⟩⟩
    ·rw[Int.toNat_natCast,List.take_length] at k2
     rw[Int.toNat_natCast]
     exact k2
    ·intro A2 len2 cap2 hc
     injection hc with hc _
     injection hc with q1 q2 q3
     subst q1 q2 q3
     rw[Int.toNat_natCast,←g1]
     exact Own_slice hown (by omega) g2
   ·cases h
  ·split at h
   ·rename_i hi' _ l h' e1 e2
    simp only[Option.some.injEq,Prod.mk.injEq,Bool.and_eq_true,decide_eq_true_eq] at h
    obtain⟨⟨⟨⟨h1,h2⟩,h3⟩,h4⟩,rfl⟩:=h
    obtain⟨k1,k2⟩:=key A len cap hr l h' e1 e2 h1 h2 h3 h4
    exact⟨_,k1,RV.scalar (av:=⟨.ty (.sl _),_⟩) k2 rfl rfl⟩
   ·cases h
theorem RowLen.le {b m n:Nat} (h:RowLen w b n) (hm:m≤n):RowLen w b m :=
 let⟨cs,T,h1,h2⟩:=h
 ⟨cs,T,h1,Nat.le_trans hm h2⟩
theorem sliceAt_win {t el:TypeId} (ht:P.underlying t=some (.slice el)) (hk:known P el=true) {e:Ty} (hsz:P.cellsOf el=e.size) {id:Nat} {y:Nat×Nat} {uv:Value} (hxv:RV w K ⟨.win id e,y⟩ uv)
  {lo hi:Option AV} {u v:Option Value} (hu:optRV w K lo u) (hv:optRV w K hi v) {c:Bool} {r:AV} (h:sliceWin id e y lo hi=some (c,r)) (hc:c=true) :
  ∃z,(Instr.sliceAt t uv u v none).run P w=.ok z w∧RV w K r z:=by
 subst hc
 obtain⟨b,j,cap,rfl,g1,g2,g3,g4,g5⟩:=RV.win hxv
 simp only[sliceWin] at h
 split at h
 ·rename_i l h' e1 e2
  simp only[Option.some.injEq,Prod.mk.injEq,Bool.and_eq_true,decide_eq_true_eq] at h
  obtain⟨⟨⟨⟨h1,h2⟩,h3⟩,h4⟩,rfl⟩:=h
  have hb:=bounds_ok (P:=P) hu hv e1 e2 h1 h2 h3 h4 g3 true
  have hs:=run_sizeOf hk w
  rw[hsz] at hs
  refine⟨.slice (if cap=l.toNat then some ⟨b,j,none⟩ else some ((⟨b,j,none⟩:Addr).add (l.toNat*e.size))) (h'.toNat-l.toNat) (cap-l.toNat),?_,?_⟩
  ·simp[Instr.sliceAt,Instr.slice,run_underlying ht,hb,hs]
  ·obtain⟨q,hq,hq2⟩:∃q,(if cap=l.toNat then some ⟨b,j,none⟩ else some ((⟨b,j,none⟩:Addr).add (l.toNat*e.size)))=some (⟨b,q,none⟩:Addr)∧(h'.toNat-l.toNat≠0→q=(y.1+l.toNat)*e.size):=by
    split
    ·exact⟨j,rfl,fun hne=>absurd hne (by omega)⟩
    ·refine⟨j+l.toNat*e.size,by rw[add_eq rfl],fun hne=>?_⟩
     rw[g4 (by omega),Nat.add_mul]
   rw[hq]
   refine R1.toRV (a:=⟨.win id e,_⟩) ⟨⟨b,q,_,rfl,g1,g2,(by show h'.toNat-l.toNat≤_;omega),hq2,g5.le ?_⟩,(fun e=>nomatch e),(fun _ c e=>nomatch e)⟩
   exact Nat.mul_le_mul_right _ (by show y.1+l.toNat+(h'.toNat-l.toNat)≤_;omega)
 ·cases h
end
end Go.Av
end
section
namespace Go.Av
open Go
section
variable {P:Program} {fr:Fr} {n:Nat} {K:Kinds} {s:St} {a:Act} {w:World} {o:Oper}
theorem run_append_row (t tx ty e:TypeId) (i:TypeInfo) (ht:P.underlying t=some (.slice e)) (hi:P.info? e=some i)
  (g off sLen sCap:Nat) (cur:Array Value) (T:TypeId) (hg:w.heap[g]?=some (.cells cur T (0,0)))
  (x:Value) (m:Nat) (news:List Value) (hS:Src P i.size tx x m news w)
  (hroom:sLen+m≤sCap) (hfit:off+sLen*i.size+news.length≤cur.size) :
  (Builtin.append_ #[t,tx] ty #[.slice (some ⟨g,off,none⟩) sLen sCap,x]).run P w =
   .ok (.slice (some ⟨g,off,none⟩) (sLen+m) sCap) (w.setRow g (cur.toList.take (off+sLen*i.size)++news++cur.toList.drop (off+sLen*i.size+news.length)).toArray):=by
 have hst:=run_storeCells_at P g (off+sLen*i.size) T news 0 cur w hg (by simpa using hfit) hS.one
 simp only[Nat.add_zero] at hst
 rcases hS.kind with⟨e',hk⟩ |hk<;>simp[Builtin.append_,run_underlying ht,run_underlying hk,sizeOf,typeInfo,hi,hS.len,hroom,hS.cells,Addr.add_lit,hst]
theorem run_append_nothing (t tx ty e:TypeId) (i:TypeInfo) (ht:P.underlying t=some (.slice e)) (hi:P.info? e=some i) (A:Option Addr) (sLen sCap:Nat) (h:sLen≤sCap) (x:Value) (hS:Src P i.size tx x 0 [] w) :
  (Builtin.append_ #[t,tx] ty #[.slice A sLen sCap,x]).run P w=.ok (.slice A sLen sCap) w:=by
 rcases hS.kind with⟨e',hk⟩ |hk<;>cases A<;>simp[Builtin.append_,run_underlying ht,run_underlying hk,sizeOf,typeInfo,hi,hS.len,h,hS.cells,storeCells]
def SLw {α:Type} (el:World→Kinds→α→List Value→Prop) (w:World) (K:Kinds) (xs:List α) (A:Option Addr) (len cap:Nat):Prop :=
 len=xs.length∧len≤cap∧(A=none→cap=0)∧∀a,A=some a→∃cc,RL (el w K) xs cc∧At w K a cc
theorem append_gen {α:Type} {el:World→Kinds→α→List Value→Prop} {sz:Nat} (hell:∀w K x c,el w K x c→c.length=sz) (hel1:∀w K x c,el w K x c→∀v∈c,v.oneCell'=true)
  (hext':∀{w K w' K'},Ext w K w' K'→∀x c,el w K x c→el w' K' x c) {t tx ty e:TypeId} {i:TypeInfo} (ht:P.underlying t=some (.slice e)) (hi:P.info? e=some i) {id:Nat} {xs ys:List α}
  (hsz:i.size=sz) (hby:0<i.bytes) (hz:(i.zero.map fun z=>z.cells.size)=some sz) (hfits:(xs.length+ys.length)*i.bytes≤140737488355328)
  {A:Option Addr} {sLen sCap:Nat} (hu:SLw el w K xs A sLen sCap) (hown:Own w K id sz A sLen sCap) {x:Value} {m:Nat} (y1:m=ys.length) {cy:List Value} (hS:Src P i.size tx x m cy w) (cy1:RL (el w K) ys cy) :
  ∃r w' K',(Builtin.append_ #[t,tx] ty #[.slice A sLen sCap,x]).run P w=.ok r w'∧Ext w K w' K'∧(∀b id' u,id'≠id→b<w.heap.size→K b=.row id' u→K' b=.row id' u∧w'.heap[b]?=w.heap[b]?) ∧
   (∀b id',b<w.heap.size→K b=.box id'→w'.heap[b]?=w.heap[b]?)∧(∀b,b<w'.heap.size→∀id',K' b=.box id'→b<w.heap.size∧K b=.box id') ∧
   ∃A' l' c',r=.slice A' l' c'∧SLw el w' K' (xs++ys) A' l' c'∧Own w' K' id sz A' l' c':=by
 obtain⟨x1,x2,x3,x4⟩:=hu
 obtain⟨z,hz0,hz1⟩:=Option.map_eq_some_iff.1 hz
 have hneed:sLen+m≤140737488355328:=by
  have:(sLen+m)*1≤(sLen+m)*i.bytes:=Nat.mul_le_mul_left _ hby
  rw[x1,y1] at this ⊢
  omega
 -- what is appended
 by_cases hm:m=0
 ·subst hm
  have hys:ys=[]:=List.length_eq_zero_iff.1 y1.symm
  subst hys
  have hcy:cy=[]:=cy1
  subst hcy
  exact⟨_,w,K,run_append_nothing t tx ty e i ht hi _ _ _ x2 _ hS,Ext.refl w K,(fun _ _ _ _ _ h=>⟨h,rfl⟩),(fun _ _ _ _=>rfl),(fun _ h _ h'=>⟨h,h'⟩),_,_,_,rfl,by rw[List.append_nil];exact⟨x1,x2,x3,x4⟩,hown⟩
 ·have hcl:cy.length=m*i.size:=hS.newsLen
  ·have hone:=RL.one (fun x c h=>hel1 w K x c h) ys cy cy1
   by_cases hroom:sLen+m≤sCap
   ·-- in place
    rcases hown with h |h |⟨b,hb,hsp,hk,arr,T,hh,hle⟩
    ·have:=x3 h;omega
    ·omega
    ·subst hb
     obtain⟨blk,off,sp⟩:=b
     simp only at hsp
     subst hsp
     simp only at hk hh hle
     have hlt:blk<w.heap.size:=by
      rcases Nat.lt_or_ge blk w.heap.size with h' |h'
      ·exact h'
      ·rw[Array.getElem?_eq_none h'] at hh;cases hh
     have hfit:off+sLen*i.size+cy.length≤arr.size:=by
      rw[hcl,hsz,Nat.add_assoc,←Nat.add_mul]
      have:=Nat.mul_le_mul_right sz hroom
      omega
     have hrun:=run_append_row (P:=P) t tx ty e i ht hi blk off sLen sCap arr T hh x m cy hS hroom hfit
     generalize hnew:(arr.toList.take (off+sLen*i.size)++cy++arr.toList.drop (off+sLen*i.size+cy.length)).toArray=arr' at hrun
     have hpre:∀j,j<off+sLen*sz→arr'[j]?=arr[j]?:=fun j hj=>by
      rw[←hsz] at hj
      rw[←hnew,List.getElem?_toArray,List.append_assoc,List.getElem?_append_left (by rw[List.length_take];have:=@Array.length_toList _ arr;omega),List.getElem?_take,if_pos hj]
      simp
     have hin:∀j v,cy[j]?=some v→arr'[off+sLen*sz+j]?=some v:=fun j v hj=>by
      have hjl:j<cy.length:=(List.getElem?_eq_some_iff.1 hj).1
      rw[←hnew,←hsz,List.getElem?_toArray,List.append_assoc,List.getElem?_append_right (by rw[List.length_take];have:=@Array.length_toList _ arr;omega)]
      rw[List.length_take,Nat.min_eq_left (by have:=@Array.length_toList _ arr;omega),Nat.add_sub_cancel_left,List.getElem?_append_left hjl]
      exact hj
     have hsize:arr'.size=arr.size:=by
      rw[←hnew]
      simp only[List.size_toArray,List.length_append,List.length_take,List.length_drop,Array.length_toList]
      omega
     have hheap:(w.setRow blk arr').heap[blk]?=some (.cells arr' T (0,0)):=setRow_heap w blk arr arr' T (0,0) hh
     have hoth:∀x,x≠blk→(w.setRow blk arr').heap[x]?=w.heap[x]?:=fun x hx=>setRow_other w blk x arr' hx
     have hext:Ext w K (w.setRow blk arr') (setK K blk (.row id (off+(sLen+m)*sz))):={
      os:=rfl
      tape:=rfl
      output:=rfl
      size:=Nat.le_of_eq (setRow_size w blk arr').symm
      fix:=fun x _ hkx=>by
       have hne:x≠blk:=fun e=>by subst e;rw[hk] at hkx;cases hkx
       exact⟨setK_other _ _ hne,hoth x hne⟩
      stab:=fun x o' _ hs=>by
       by_cases hne:x=blk
       ·subst hne
        unfold Stab at hs ⊢
        rw[hk] at hs
        rw[setK_same]
        replace hs:o' < off+sLen*sz:=hs
        refine⟨?_,?_⟩
        ·show o' < off+(sLen+m)*sz
         rw[Nat.add_mul];omega
        ·simp only[World.cell?,hheap,hh,Option.isSome_none,Bool.false_eq_true,if_false]
         exact hpre o' hs
       ·refine⟨?_,World.cell?_of_block (a:=⟨x,o',none⟩) (hoth x hne)⟩
        unfold Stab at hs ⊢
        rw[setK_other _ _ hne]
        exact hs
      box:=fun x id' _ hkx=>by
       have hne:x≠blk:=fun e=>by subst e;rw[hk] at hkx;cases hkx
       rw[setK_other _ _ hne];exact hkx
      bsz:=fun x id' n _ hkx hn=>by
       have hne:x≠blk:=fun e=>by subst e;rw[hk] at hkx;cases hkx
       obtain⟨cs,T,h1,h2⟩:=hn
       exact⟨cs,T,(hoth x hne).trans h1,h2⟩}
     refine⟨_,_,setK K blk (.row id (off+(sLen+m)*sz)),hrun,hext,?_,?_,?_,_,_,_,rfl,?_,?_⟩
     ·intro x id' u hne _ hkx
      have hne':x≠blk:=fun e=>by subst e;rw[hk] at hkx;injection hkx with h1;exact hne h1.symm
      exact⟨by rw[setK_other _ _ hne'];exact hkx,hoth x hne'⟩
     ·intro x id' _ hkx
      exact hoth x (fun e=>by subst e;rw[hk] at hkx;cases hkx)
     ·intro x hx id' hkx
      rw[setRow_size] at hx
      have hne:x≠blk:=fun e=>by subst e;rw[setK_same] at hkx;cases hkx
      rw[setK_other _ _ hne] at hkx
      exact⟨hx,hkx⟩
     ·obtain⟨cx,cx1,cx2⟩:=x4 _ rfl
      refine⟨by rw[List.length_append,←x1,←y1],hroom,(fun h=>by cases h),fun ad' had=>?_⟩
      ·cases had
       have g:=hext.stab
       refine⟨cx++cy,RL.append (RL.imp (hext' hext) xs cx cx1) (RL.imp (hext' hext) ys cy cy1),?_⟩
       have hcxl:cx.length=sLen*sz:=by rw[RL.length (fun x c h=>hell w K x c h) xs cx cx1,x1]
       intro j v hj
       by_cases hlt':j<cx.length
       ·rw[List.getElem?_append_left hlt'] at hj
        exact(cx2.ext g) j v hj
       ·rw[List.getElem?_append_right (by omega)] at hj
        have hjl:j-cx.length<cy.length:=(List.getElem?_eq_some_iff.1 hj).1
        have:=hin _ _ hj
        refine⟨rfl,?_,?_⟩
        ·simp only[World.cell?,hheap,Option.isSome_none,Bool.false_eq_true,if_false]
         rw[←this]
         congr 1
         omega
        ·unfold Stab
         rw[setK_same]
         show off+j<off+(sLen+m)*sz
         rw[Nat.add_mul]
         rw[hsz] at hcl
         omega
     ·exact .inr (.inr ⟨_,rfl,rfl,setK_same _ _ _,arr',T,hheap,by rw[hsize];exact hle⟩)
   ·-- a new row
    have hgrow:sCap<sLen+m:=by omega
    have h48:=growslice_fits (bytes:=i.bytes) hgrow (by rw[x1,y1];exact hfits)
    have grown:∀cx:List Value,RL (el w K) xs cx→∀(rest:Array Value),rest.size=(grownCap w (sLen+m) sCap e-(sLen+m))*sz →
      (Builtin.append_ #[t,tx] ty #[.slice A sLen sCap,x]).run P w=.ok (.slice (some ⟨w.heap.size,0,none⟩) (sLen+m) (grownCap w (sLen+m) sCap e)) (w.drew.alloc (.cells ((cx++cy).toArray++rest) e)) →
      ∃r w' K',(Builtin.append_ #[t,tx] ty #[.slice A sLen sCap,x]).run P w=.ok r w'∧Ext w K w' K'∧(∀b id' u,id'≠id→b<w.heap.size→K b=.row id' u→K' b=.row id' u∧w'.heap[b]?=w.heap[b]?) ∧
   (∀b id',b<w.heap.size→K b=.box id'→w'.heap[b]?=w.heap[b]?)∧(∀b,b<w'.heap.size→∀id',K' b=.box id'→b<w.heap.size∧K b=.box id') ∧
   ∃A' l' c',r=.slice A' l' c'∧SLw el w' K' (xs++ys) A' l' c'∧Own w' K' id sz A' l' c':=by
     intro cx cx1 rest hrest hrun
     have hst:Still w K (w.drew.alloc (.cells ((cx++cy).toArray++rest) e)) (setK K w.heap.size (.row id ((sLen+m)*sz))):=Still.alloc w K _ _ _ _ 1
     have hcxl:cx.length=sLen*sz:=by rw[RL.length (fun x c h=>hell w K x c h) xs cx cx1,x1]
     have hlen:(cx++cy).length=(sLen+m)*sz:=by rw[List.length_append,hcxl,hcl,hsz,Nat.add_mul]
     have hge:=grownCap_ge w (sLen+m) sCap e
     refine⟨_,_,_,hrun,hst.ext,(fun b id' u _ hb hkb=>hst.rows b id' u hb hkb),hst.boxes,hst.fresh,_,_,_,rfl,⟨by rw[List.length_append,←x1,←y1],hge,(fun h=>by cases h),fun ad' had=>?_⟩,?_⟩
     ·cases had
      refine⟨cx++cy,RL.append (RL.imp (hext' hst.ext) xs cx cx1) (RL.imp (hext' hst.ext) ys cy cy1),?_⟩
      exact At.new w K (cx++cy) rest e (0,0) id _ 1 (by rw[hlen];exact Nat.le_refl _)
     ·refine .inr (.inr ⟨_,rfl,rfl,?_,_,e,heap_new w.drew _,?_⟩)
      ·show setK K w.heap.size _ w.heap.size=_
       rw[setK_same,Nat.zero_add]
      ·show 0+grownCap w (sLen+m) sCap e*sz≤((cx++cy).toArray++rest).size
       rw[Array.size_append,show(cx++cy).toArray.size=(sLen+m)*sz by rw[←hlen];simp,hrest,Nat.zero_add,←Nat.add_mul]
       apply Nat.le_of_eq
       congr 1
       omega
    have hzs:∀k,(Builtin.zeroCells z.cells k).size=k*sz:=fun k=>by rw[size_zeroCells,hz1]
    have h63:((sLen+m:Nat):Int)≤9223372036854775807:=by omega
    cases A with
    |none =>
     have h0:=x3 rfl
     subst h0
     have h1:sLen=0:=by omega
     subst h1
     have hxs:xs=[]:=List.length_eq_zero_iff.1 x1.symm
     subst hxs
     have hrun:=run_append_grow_src (P:=P) w t tx ty e i z ht hi hz0 none 0 0 [] (run_firstCells_none w.drew i.size 0 0 0) x m cy hS hgrow h63 h48
     refine grown [] rfl (Builtin.zeroCells z.cells (grownCap w (0+m) 0 e-(0+m))) (hzs _) ?_
     exact hrun
    |some b =>
     obtain⟨cx,cx1,cx2⟩:=x4 b rfl
     have hcxl:cx.length=sLen*i.size:=by rw[RL.length (fun x c h=>hell w K x c h) xs cx cx1,x1,hsz]
     have hrun:=run_append_grow_src (P:=P) w t tx ty e i z ht hi hz0 (some b) sLen sCap cx (run_firstCells_some w.drew i.size sLen b sLen sCap cx hcxl (by simpa using fun j v hj=>cx2.cell j v hj)) x m cy hS hgrow h63 h48
     exact grown cx cx1 (Builtin.zeroCells z.cells (grownCap w (sLen+m) sCap e-(sLen+m))) (hzs _) hrun
theorem append_src_ok (hr:Rel fr n K s a w) {d:Option Nat} (hd:∀t,d=some t→t<n) {t tx ty e:TypeId} {i:TypeInfo} (ht:P.underlying t=some (.slice e)) (hi:P.info? e=some i) {τ:Ty} {id:Nat} {xs ys:List τ.den}
  (hsz:i.size=τ.size) (hby:0<i.bytes) (hz:(i.zero.map fun z=>z.cells.size)=some τ.size) (hfits:(xs.length+ys.length)*i.bytes≤140737488355328)
  {u x:Value} (hu:RV w K ⟨.osl id τ,xs⟩ u) {m:Nat} (y1:m=ys.length) {cy:List Value} (hS:Src P i.size tx x m cy w) (cy1:RL (RT w K τ) ys cy) :
  ∃r w' K',(Builtin.append_ #[t,tx] ty #[u,x]).run P w=.ok r w'∧Rel fr n K' (s.apply d (.app id ⟨.osl id τ,xs++ys⟩)) (a.put d r) w':=by
 obtain⟨A,sLen,sCap,rfl,hx,hown⟩:=RV.osl hu
 obtain⟨A',len',cap',he,hx⟩:=hx
 injection he with he _
 injection he with q1 q2 q3
 subst q1 q2 q3
 obtain⟨r,w',K',g1,g2,g3,g4,g5,A2,l2,c2,rfl,g6,g7⟩:=append_gen (ty:=ty) (fun w K x c=>RT.length τ x c) (fun w K x c=>RT.one τ x c) (fun g x c=>RT.ext g.stab τ x c) ht hi hsz hby hz hfits hx hown y1 hS cy1
 refine⟨_,w',K',g1,hr.app hd g2 g3 g4 g5 ⟨⟨⟨_,_,_,rfl,g6⟩,fun A3 l3 c3 hc=>?_⟩,(fun e=>nomatch e),(fun _ c e=>nomatch e)⟩⟩
 injection hc with hc _
 injection hc with q1 q2 q3
 subst q1 q2 q3
 exact g7
theorem RWin.length {id:Nat} {e:Ty} {x:Nat×Nat} {c:List Value}:RWin w K id e x c→c.length=1
 |⟨_,_,_,h,_⟩=>by rw[h];rfl
theorem RWin.one {id:Nat} {e:Ty} {x:Nat×Nat} {c:List Value}:RWin w K id e x c→∀v∈c,v.oneCell'=true
 |⟨_,_,_,h,_⟩,v,hv=>by rw[h] at hv;simp at hv;subst hv;rfl
theorem append_wsl_ok (hr:Rel fr n K s a w) {d:Option Nat} (hd:∀t,d=some t→t<n) {t ty e:TypeId} {i:TypeInfo} (ht:P.underlying t=some (.slice e)) (hi:P.info? e=some i) {id bx:Nat} {τ:Ty} {xs ys:List (Nat×Nat)}
  (hsz:i.size=1) (hby:0<i.bytes) (hz:(i.zero.map fun z=>z.cells.size)=some 1) (hfits:(xs.length+ys.length)*i.bytes≤140737488355328)
  {u v:Value} {A:Option Addr} {l k:Nat} (hu:u=.slice A l k) (hx:RWsl w K bx τ xs [u]) (hown:Own w K id 1 A l k) (hv:RWsl w K bx τ ys [v]) :
  ∃r w' K',(Builtin.append_ #[t,t] ty #[u,v]).run P w=.ok r w'∧Rel fr n K' (s.apply d (.app id ⟨.wsl (some id) bx τ,xs++ys⟩)) (a.put d r) w':=by
 subst hu
 obtain⟨A',len',cap',he,hx⟩:=hx
 injection he with he _
 injection he with q1 q2 q3
 subst q1 q2 q3
 obtain⟨B,m,c,he,y1,y2,y3,y4⟩:=hv
 injection he with he _
 subst he
 have fin:∀{cy:List Value},Src P i.size t (.slice B m c) m cy w→RL (RWin w K bx τ) ys cy →
   ∃r w' K',(Builtin.append_ #[t,t] ty #[.slice A l k,.slice B m c]).run P w=.ok r w'∧Rel fr n K' (s.apply d (.app id ⟨.wsl (some id) bx τ,xs++ys⟩)) (a.put d r) w':=fun hS cy1=>by
  obtain⟨r,w',K',g1,g2,g3,g4,g5,A2,l2,c2,rfl,g6,g7⟩:=append_gen (ty:=ty) (el:=fun w K=>RWin w K bx τ) (fun w K x c h=>RWin.length h) (fun w K x c h=>RWin.one h) (fun g x c h=>RWin.ext g.size (fun b hb hk=>⟨g.box b _ hb hk,fun n hn=>g.bsz b _ n hb hk hn⟩) h) ht hi hsz hby hz hfits hx hown y1 hS cy1
  refine⟨_,w',K',g1,hr.app hd g2 g3 g4 g5 ⟨⟨⟨_,_,_,rfl,g6⟩,fun t A3 l3 c3 ht hc=>?_⟩,(fun e=>nomatch e),(fun _ c e=>nomatch e)⟩⟩
  cases ht
  injection hc with hc _
  injection hc with q1 q2 q3
  subst q1 q2 q3
  exact g7
 cases B with
 |none =>
  have h0:=y3 rfl
  have hm:m=0:=by omega
  subst hm
  have hys:ys=[]:=List.length_eq_zero_iff.1 y1.symm
  subst hys
  exact fin (Src.ofNil w ht c) rfl
 |some ad =>
  obtain⟨cy,cy1,cy2⟩:=y4 ad rfl
  have hcl:cy.length=m*i.size:=by rw[RL.length (fun x c h=>RWin.length h) ys cy cy1,y1,hsz]
  exact fin (Src.ofSlice w ht ad m c cy hcl (fun j u hj=>cy2.cell j u hj) (RL.one (fun x c h=>RWin.one h) ys cy cy1)) cy1
theorem append_ok (hr:Rel fr n K s a w) {d:Option Nat} (hd:∀t,d=some t→t<n) {t ty e:TypeId} {i:TypeInfo} (ht:P.underlying t=some (.slice e)) (hi:P.info? e=some i) {τ:Ty} {id:Nat} {xs ys:List τ.den}
  (hsz:i.size=τ.size) (hby:0<i.bytes) (hz:(i.zero.map fun z=>z.cells.size)=some τ.size) (hfits:(xs.length+ys.length)*i.bytes≤140737488355328)
  {u v:Value} (hu:RV w K ⟨.osl id τ,xs⟩ u) (hvm:v=mkV false v.cells.toList) (hv:RT w K (.sl τ) ys v.cells.toList) :
  ∃r w' K',(Builtin.append_ #[t,t] ty #[u,v]).run P w=.ok r w'∧Rel fr n K' (s.apply d (.app id ⟨.osl id τ,xs++ys⟩)) (a.put d r) w':=by
 obtain⟨B,m,c,hvc,y1,y2,y3,y4⟩:=hv
 have hv:v=.slice B m c:=by rw[hvm,hvc];rfl
 subst hv
 cases B with
 |none =>
  have h0:=y3 rfl
  have hm:m=0:=by omega
  subst hm
  have hys:ys=[]:=List.length_eq_zero_iff.1 y1.symm
  subst hys
  exact append_src_ok hr hd ht hi hsz hby hz hfits hu y1 (Src.ofNil w ht c) rfl
 |some ad =>
  obtain⟨cy,cy1,cy2⟩:=y4 ad rfl
  have hcl:cy.length=m*i.size:=by rw[RL.length (RT.length τ) ys cy cy1,y1,hsz]
  exact append_src_ok hr hd ht hi hsz hby hz hfits hu y1 (Src.ofSlice w ht ad m c cy hcl (fun j u hj=>cy2.cell j u hj) (RL.one (RT.one τ) ys cy cy1)) cy1
theorem bytes_RL (s:List UInt8):RL (RT w K (.int .u8)) (s.map fun b=>(b.toNat:Int)) (byteCells ⟨⟨s⟩⟩):=by
 unfold byteCells
 simp only
 induction s with
 |nil=>rfl
 |cons b s ih=>exact⟨[_],_,rfl,rfl,ih⟩
theorem append_str_ok (hr:Rel fr n K s a w) {d:Option Nat} (hd:∀t,d=some t→t<n) {t tx ty e:TypeId} {i:TypeInfo} (ht:P.underlying t=some (.slice e)) (htx:P.underlying tx=some .string) (hi:P.info? e=some i) {id:Nat} {xs:List Int} {b:List UInt8}
  (hsz:i.size=1) (hby:0<i.bytes) (hz:(i.zero.map fun z=>z.cells.size)=some 1) (hfits:(xs.length+b.length)*i.bytes≤140737488355328)
  {u v:Value} (hu:RV w K ⟨.osl id (.int .u8),xs⟩ u) (hv:RV w K ⟨.ty .str,b⟩ v) :
  ∃r w' K',(Builtin.append_ #[t,tx] ty #[u,v]).run P w=.ok r w'∧Rel fr n K' (s.apply d (.app id ⟨.osl id (.int .u8),xs++b.map fun b=>(b.toNat:Int)⟩)) (a.put d r) w':=by
 have hv:=RV.str hv
 subst hv
 have hS:Src P i.size tx (.string ⟨⟨b⟩⟩) b.length (byteCells ⟨⟨b⟩⟩) w:=by rw[hsz];exact Src.ofString w htx ⟨⟨b⟩⟩
 exact append_src_ok (τ:=.int .u8) hr hd ht hi hsz hby hz (by rw[List.length_map];exact hfits) hu (by rw[List.length_map]) hS (bytes_RL b)
theorem wslOf_ok {b:Nat} {τ:Ty} {x:AV} {tg:Nat} {xs:List (Nat×Nat)} (h:wslOf b τ x=some (tg,xs)) {u:Value} (hu:RV w K x u):∃A l k,u=.slice A l k∧RWsl w K b τ xs [.slice A l k]∧Own w K tg 1 A l k:=by
 unfold wslOf at h
 split at h
 ·split at h
  ·rename_i hb
   split at h
   ·rename_i he _
    subst hb
    subst he
    cases h
    obtain⟨A,l,k,h1,h2,h3⟩:=RV.wsl hu
    exact⟨A,l,k,h1,h2,h3 _ rfl⟩
   ·cases h
  ·cases h
 ·split at h
  ·cases h
   obtain⟨A,l,k,h1,⟨A',l',k',he,x1,x2,x3,x4⟩,h3⟩:=RV.osl hu
   injection he with he _
   injection he with q1 q2 q3
   subst q1 q2 q3
   refine⟨A,l,k,h1,⟨A,l,k,rfl,x1,x2,x3,fun ad had=>?_⟩,h3⟩
   obtain⟨cc,c1,c2⟩:=x4 ad had
   cases (show cc=[] from c1)
   exact⟨[],rfl,c2⟩
  ·cases h
 ·cases h
end
end Go.Av
end
