/- The abstract walk of a function's code: its definition. -/
import Derived.Test.YtbfhpnnnfjjjnaaAvAll
namespace Go.Av
open Go

abbrev Heap := List (Nat × AV)
/-- What a function leaves: its result, its boxes, the next number. -/
abbrev R := AV × Heap × Nat
abbrev Kont := Exit → St → Option R

/-- What a function makes of plain arguments, and where that is known. -/
abbrev Plain := List AV → Option (Bool × AV)

/-- A loop: slots that matter, slots that may change besides, and what it does to the values of the first (and to boxes). -/
structure Loop where
  M : List Nat
  T : List Nat
  run : List AV → Heap → Nat → (Exit → List AV → Heap → Nat → Option R) → Option R

structure Ctx where
  P : Program
  eqs : List TypeId
  plain : FuncId → Option Plain
  loops : FuncId → Nat → Option Loop

/-! ### Tags and boxes that values bear -/

def Sh.boxes : Sh → List Nat
  | .pair a b => a.boxes ++ b.boxes
  | .box id _ => [id]
  | .boxi id _ _ _ => [id]
  | .fn _ caps => caps.boxes
  | .tup a => a.boxes
  | _ => []

def Sh.rows : Sh → List Nat
  | .pair a b => a.rows ++ b.rows
  | .osl id _ => [id]
  | .fn _ caps => caps.rows
  | .tup a => a.rows
  | _ => []

def addNew (l : List Nat) : List Nat → List Nat
  | [] => l
  | x :: xs => if l.contains x then addNew l xs else addNew (l ++ [x]) xs

def contentBoxes (h : Heap) : List Nat → List Nat
  | [] => []
  | id :: l => (match look id h with
    | some c => c.sh.boxes
    | none => []) ++ contentBoxes h l

def contentRows (h : Heap) : List Nat → List Nat
  | [] => []
  | id :: l => (match look id h with
    | some c => c.sh.rows
    | none => []) ++ contentRows h l

def hasBox (h : Heap) (id : Nat) : Bool := (look id h).isSome

/-- The boxes that are reached. -/
def reach (h : Heap) : Nat → List Nat → List Nat
  | 0, l => l
  | d + 1, l => reach h d (addNew l ((contentBoxes h l).filter (hasBox h)))

def allBoxes : List AV → List Nat
  | [] => []
  | a :: l => a.sh.boxes ++ allBoxes l

def allRows : List AV → List Nat
  | [] => []
  | a :: l => a.sh.rows ++ allRows l

def indexIn (id : Nat) : List Nat → Nat → Option Nat
  | [], _ => none
  | x :: l, k => if id == x then some k else indexIn id l (k + 1)

def nthOr (N : Nat) (l : List Nat) (j : Nat) : Option Nat :=
  match l[j]? with
  | some x => some x
  | none => some (N + j)

/-- Boxes' contents under new names. -/
def localHeap (h : Heap) (ρ σ : Nat → Option Nat) : List Nat → Nat → Heap
  | [], _ => []
  | id :: l, k => (match look id h with
    | some c => [(k, c.ren ρ σ)]
    | none => []) ++ localHeap h ρ σ l (k + 1)

def strikeAll (ts : List Nat) (j : Nat) : Option Nat := if ts.contains j then none else some j

/-- A heap of a callee laid back: its boxes under the caller's names. -/
def backHeap (ρ σ : Nat → Option Nat) (h : Heap) : Heap → Heap
  | [] => h
  | (j, c) :: l => match σ j with
    | some id => put id (c.ren ρ σ) (backHeap ρ σ h l)
    | none => backHeap ρ σ h l

/-- The new boxes' names are free. -/
def freshIn (N : Nat) (bs : List Nat) (h : Heap) : Heap → Bool
  | [] => true
  | (j, _) :: l => (match bs[j]? with
    | some _ => true
    | none => (look (N + j) h).isNone) && freshIn N bs h l

def noDup : List Nat → Bool
  | [] => true
  | x :: l => !l.contains x && noDup l

def noRow (_ : Nat) : Option Nat := none

/-- A call of a function whose code is walked: arguments without tags; boxes that they reach go in, and come back. -/
def inCall (body : List AV → Heap → Nat → (AV → Heap → Nat → Option R) → Option R) (args : List AV) (s : St) (K : AV → St → Option R) : Option R :=
  let bs := reach s.heap 4 (addNew [] ((allBoxes args).filter (hasBox s.heap)))
  let ts := addNew [] (contentRows s.heap bs)
  let ρ := fun id => indexIn id ts 0
  let σ := fun id => indexIn id bs 0
  if noDup bs && bs.all (hasBox s.heap) then
    body (args.map (·.ren noRow σ)) (localHeap s.heap ρ σ bs 0) 64 fun v h nx =>
      if freshIn s.next bs s.heap h then
        let ρ' := nthOr s.next ts
        let σ' := nthOr s.next bs
        K (v.ren ρ' σ') { ents := mapV (·.ren (strikeAll ts) some) s.ents, heap := backHeap ρ' σ' (mapV (·.ren (strikeAll ts) some) s.heap) h, next := s.next + nx }
      else none
  else none

/-! ### Code -/

def zipM : List Nat → List AV → List (Nat × AV)
  | t :: M, a :: l => put t a (zipM M l)
  | _, _ => []

def without (T : List Nat) (l0 : List (Nat × AV)) : List (Nat × AV) → List (Nat × AV)
  | [] => []
  | (j, _) :: l => if T.contains j then without T l0 l else match look j l0 with
    | some v => (j, v) :: without T l0 l
    | none => without T l0 l

def zipOn (base : List (Nat × AV)) : List Nat → List AV → List (Nat × AV)
  | t :: M, a :: l => put t a (zipOn base M l)
  | _, _ => base

def keysIn (T : List Nat) : List (Nat × AV) → Bool
  | [] => true
  | (j, _) :: l => T.contains j && keysIn T l

/-- A loop's state, as the loop sees it: the values of its slots and the boxes that they reach, tags and boxes by their order. -/
def inLoop (run : List AV → Heap → Nat → (Exit → List AV → Heap → Nat → Option R) → Option R) (vals : List AV) (heap : Heap) (next : Nat)
    (K : Exit → List AV → Heap → Nat → (Nat → Option Nat) → Option R) : Option R :=
  let bs := reach heap 4 (addNew [] ((allBoxes vals).filter (hasBox heap)))
  let ts := addNew [] (allRows vals ++ contentRows heap bs)
  let ρ := fun id => indexIn id ts 0
  let σ := fun id => indexIn id bs 0
  if noDup bs && bs.all (hasBox heap) then
    run (vals.map (·.ren ρ σ)) (localHeap heap ρ σ bs 0) 64 fun e vals' h nx =>
      if freshIn next bs heap h then
        let ρ' := nthOr next ts
        let σ' := nthOr next bs
        K e (vals'.map (·.ren ρ' σ')) (backHeap ρ' σ' (mapV (·.ren (strikeAll ts) some) heap) h) (next + nx) (strikeAll ts)
      else none
  else none

def firstReg : Code → Option Nat
  | .region id _ _ => some id
  | .seq a b => match firstReg a with
    | some r => some r
    | none => firstReg b
  | .cond _ a b => match firstReg a with
    | some r => some r
    | none => firstReg b
  | .block _ c => firstReg c
  | .loop c => firstReg c
  | .scope c => firstReg c
  | _ => none

def dstOk (n : Nat) (o : Oper) : Bool :=
  match o.dst with
  | some d => Nat.blt d n
  | none => true

/-- A call's function and arguments. -/
def unpack : Sh → (d : Nat) → Bool
  | .ty .unit, _ => true
  | _, 0 => false
  | .pair a b, d + 1 => !a.agg && unpack b d
  | .ty (.pair a b), d + 1 => !a.agg && unpack (.ty b) d
  | _, _ => false

def parts : Nat → AV → List AV
  | 0, _ => []
  | d + 1, a => match a.split with
    | some (p, q) => p :: parts d q
    | none => []

def calleeOf (s : St) (c : Call) : Option (FuncId × List AV) :=
  match c.callee with
  | .value f => match opnd s f with
    | ⟨.fn g caps, x⟩ => if unpack caps 12 then some (g, c.args.toList.map (opnd s) ++ parts 12 ⟨caps, x⟩) else none
    | ⟨.ty .func, some g⟩ => some (g, c.args.toList.map (opnd s))
    | _ => none
  | _ => none

/-- An operation that is done at once: all but a call of a function that is walked. -/
def effOf (C : Ctx) (s : St) (no : Lim) (id : Nat) (o : Oper) : Res Eff :=
  match o.op with
  | .call c => match calleeOf s c with
    | some (g, args) => (match C.plain g with
      | some ps => (ps (args.map (·.ren noRow noRow))).map fun v => (v.1, .val (v.2.ren (nthOr id []) (nthOr id [])))
      | none => none)
    | none => opE C.P C.eqs s no id o
  | _ => opE C.P C.eqs s no id o

/-- The function that an operation calls and that is walked. -/
def walked (C : Ctx) (s : St) (o : Oper) : Option (FuncId × List AV) :=
  match o.op with
  | .call c => match calleeOf s c with
    | some (g, args) => (match C.plain g with
      | some _ => none
      | none => some (g, args))
    | none => none
  | _ => none

abbrev CallIn := FuncId → List AV → Heap → Nat → (AV → Heap → Nat → Option R) → Option R

def stepOp (C : Ctx) (call : CallIn) (n : Nat) (no : Lim) (id : Nat) (o : Oper) (s : St) (K : St → Option R) : Option R :=
  bif dstOk n o then
    match walked C s o with
    | some (g, args) => inCall (call g) args s fun v s' => K (s'.setO o.dst v)
    | none => match effOf C s no id o with
      | some (c, e) => bif c then K (s.apply o.dst e) else none
      | none => none
  else none

def guardSlot (ops : Array Oper) (j : Nat) : Option Nat := (ops[j]?).bind (·.dst)

def runOps (C : Ctx) (call : CallIn) (n : Nat) (no : Lim) (ops : Array Oper) : List Oper → (id : Nat) → St → (St → Option R) → Option R
  | [], _, s, K => K s
  | o :: l, id, s, K => match o.guard with
    | none => stepOp C call n no id o s fun s => runOps C call n no ops l (id + 16) s K
    | some (j, want) => match guardSlot ops j with
      | some d => (match s.get d with
        | ⟨.ty .bool, b⟩ => bif b then
            (bif want then stepOp C call n no id o (s.set d (.bool true)) fun s => runOps C call n no ops l (id + 16) s K
              else bif dstOk n o then runOps C call n no ops l (id + 16) ((s.set d (.bool true)).setO o.dst .undef) K else none)
          else (bif want then bif dstOk n o then runOps C call n no ops l (id + 16) ((s.set d (.bool false)).setO o.dst .undef) K else none
              else stepOp C call n no id o (s.set d (.bool false)) fun s => runOps C call n no ops l (id + 16) s K)
        | ⟨.tup (.ty .unit), _⟩ => bif dstOk n o then runOps C call n no ops l (id + 16) (s.setO o.dst .undef) K else none
        | _ => none)
      | none => none

def iter (f : St → Kont → Option R) : Nat → St → Kont → Option R
  | 0, _, _ => none
  | m + 1, s, K => f s fun e s' => match e with
    | .normal => iter f m s' K
    | e => K e s'

def noId : Lim := ⟨fun _ _ => false, fun _ _ => true⟩
def noB (_ : Nat) : Bool := false

/-- The boxes that a region makes. -/
def makes (base : Nat) : List Oper → Nat → List Nat
  | [], _ => []
  | o :: l, id => match o.op with
    | .alloc _ | .box _ _ => id :: makes base l (id + 16)
    | _ => makes base l (id + 16)

/-! ### What may change places -/

def edges (o : Oper) : List Nat := o.after.toList.filterMap fun e => if Region.binds .any e then some e.on else none

def maskOf (acc : List Nat) : List Nat → Nat
  | [] => 0
  | e :: l => ((1 <<< e) ||| acc.getD e 0) ||| maskOf acc l

/-- What must come ahead of each operation, as bits. -/
def ancs : List Oper → List Nat → List Nat
  | [], acc => acc
  | o :: l, acc => ancs l (acc ++ [maskOf acc (edges o)])

def wroteBy (t : Nat) : List Oper → Option Oper
  | [] => none
  | o :: l => match o.dst with
    | some d => if d == t then some o else wroteBy t l
    | none => wroteBy t l

/-- The box to which a slot's address leads, as it seems ahead of a region. -/
def rootW (s : St) (ops : List Oper) : Nat → Nat → Option Nat
  | 0, _ => none
  | d + 1, t => match wroteBy t ops with
    | some o => (match o.op with
      | .fieldAddr _ (.tmp x) _ | .indexAddr _ (.tmp x) _ | .nilCheck (.tmp x) | .move (.tmp x) | .assign (.tmp x) => rootW s ops d x
      | _ => none)
    | none => (match s.get t with
      | ⟨.box id _, _⟩ => some id
      | ⟨.boxi id _ _ _, _⟩ => some id
      | _ => none)

/-- A store's box, as it seems. -/
def storeBox (s : St) (ops : List Oper) (o : Oper) : Option (Option Nat) :=
  match o.op with
  | .store _ (.tmp t) _ => some (rootW s ops 8 t)
  | .store _ _ _ => some none
  | _ => none

def isBox (b : Nat) : Option Nat → Bool
  | some c => c == b
  | none => true

def unordered (anc : List Nat) (i k : Nat) : Bool := bif Nat.blt i k then !(anc.getD k 0).testBit i else !(anc.getD i 0).testBit k

/-- Does a store that may change places with the operation i write to a box? -/
def clash (anc : List Nat) (i b : Nat) : Nat → List (Option (Option Nat)) → Bool
  | _, [] => false
  | k, none :: l => clash anc i b (k + 1) l
  | k, some w :: l => (unordered anc i k && isBox b w) || clash anc i b (k + 1) l

def limOf (s : St) (base : Nat) (ops : Array Oper) : Lim where
  rd := fun id b => (makes base ops.toList base).contains b || clash (ancs ops.toList []) ((id - base) / 16) b 0 (ops.toList.map (storeBox s ops.toList))
  wr := fun id b => match (ops.toList.map (storeBox s ops.toList)).getD ((id - base) / 16) none with
    | some w => isBox b w
    | none => true

/-! ### Ways that meet again -/

/-- What a stretch of code comes to: states, by tests. -/
inductive Tree where
  | leaf (s : St)
  | ite (b : Bool) (t e : Tree)
  | fail

def Tree.fold (K : St → Option R) : Tree → Option R
  | .leaf s => K s
  | .ite b t e => bif b then t.fold K else e.fold K
  | .fail => none

def Tree.bindO (f : St → Option Tree) : Tree → Option Tree
  | .leaf s => f s
  | .ite b t e => match t.bindO f with
    | some t => (match e.bindO f with
      | some e => some (.ite b t e)
      | none => none)
    | none => none
  | .fail => some .fail

def AV.known (a : AV) : Bool :=
  match a.sh with
  | .top => false
  | .tup (.ty .unit) => false
  | _ => true

/-- One value or another, of one shape. -/
def Sh.merge (b : Bool) : (s : Sh) → s.den → (t : Sh) → t.den → Option AV
  | .osl i e, x, .osl j e', y => match Ty.dec e e' with
    | isTrue h => if i = j then some ⟨.osl j e', bif b then h ▸ x else y⟩ else some ⟨.ty (.sl e'), bif b then h ▸ x else y⟩
    | isFalse _ => none
  | .box i o, _, .box j o', _ => if i = j ∧ o = o' then some (.box j o') else none
  | .ref τ o, x, .ref τ' o', y => match Ty.dec τ τ' with
    | isTrue h => if o = o' then some ⟨.ref τ' o', bif b then h ▸ x else y⟩ else none
    | isFalse _ => none
  | s, x, .ty τ, y => match s.as x τ with
    | some x' => some ⟨.ty τ, bif b then x' else y⟩
    | none => none
  | .ty τ, x, t, y => match t.as y τ with
    | some y' => some ⟨.ty τ, bif b then x else y'⟩
    | none => none
  | .pair p q, x, .pair p' q', y => match Sh.merge b p x.1 p' y.1, Sh.merge b q x.2 q' y.2 with
    | some u, some v => some (AV.mkPair u v)
    | _, _ => none
  | _, _, _, _ => none

def AV.merge (b : Bool) (x y : AV) : Option AV :=
  if x.known && y.known then Sh.merge b x.sh x.v y.sh y.v else some .top

def mergeW (b : Bool) (s1 s2 : St) : List Nat → List (Nat × AV) → Option (List (Nat × AV))
  | [], e => some e
  | t :: W, e => match AV.merge b (s1.get t) (s2.get t) with
    | some v => mergeW b s1 s2 W (put t v e)
    | none => none

def mergeSt (W : List Nat) (s : St) (b : Bool) (s1 s2 : St) : Option St :=
  (mergeW b s1 s2 W s.ents).map fun e => { s with ents := e, next := max s1.next s2.next }

def andO (b : Bool) : Option Bool → Option Bool
  | none => some b
  | some c => some (b && c)

def iteO (b : Bool) : Option Bool → Option Bool → Option Bool
  | none, none => none
  | none, some d => some (bif b then true else d)
  | some c, none => some (bif b then c else true)
  | some c, some d => some (bif b then c else d)

/-- One state for all, and under which condition it is come to (none: under any). -/
def Tree.merge (W : List Nat) (s : St) : Tree → Option (Option Bool × St)
  | .leaf s1 => some (none, s1)
  | .fail => none
  | .ite b t .fail => (t.merge W s).map fun p => (andO b p.1, p.2)
  | .ite b .fail e => (e.merge W s).map fun p => (andO (!b) p.1, p.2)
  | .ite b t e => match t.merge W s with
    | some p => (match e.merge W s with
      | some q => (mergeSt W s b p.2 q.2).map fun s' => (iteO b p.1 q.1, s')
      | none => none)
    | none => none

def Tree.join (W : List Nat) (s : St) (t : Tree) : Tree :=
  match t.merge W s with
  | some (none, s') => .leaf s'
  | some (some c, s') => .ite c (.leaf s') .fail
  | none => t

/-- Is an operation's condition met whatever comes? -/
def sure (s : St) (o : Oper) : Bool :=
  match o.op with
  | .move _ | .assign _ | .pick .. | .box .. | .build .. | .buildSlice .. | .load .. | .nilCheck _ | .unOp .. | .convert .. | .makeFunc .. | .fieldAddr .. | .field .. | .extract .. => true
  | .binOp op _ x y _ => (match op with
    | .sub | .mul | .and | .or | .xor | .andNot | .eql | .neq | .lss | .leq | .gtr | .geq => true
    | .add => (match opnd s x with
      | ⟨.ty (.int _), _⟩ => true
      | _ => false)
    | .shl | .shr => (match y with
      | .const (.int _ n) => decide (0 ≤ n)
      | _ => false)
    | .quo | .rem => (match y with
      | .const (.int _ n) => decide (n ≠ 0)
      | _ => false))
  | .call c => (match c.callee with
    | .builtin .len | .builtin .min | .builtin .max => true
    | _ => false)
  | _ => false

/-- An operation that leaves a value, and nothing besides. -/
def treeOp (C : Ctx) (n : Nat) (no : Lim) (id : Nat) (o : Oper) (s : St) : Option Tree :=
  bif dstOk n o then
    match walked C s o with
    | some _ => none
    | none => match effOf C s no id o with
      | some (c, .val a) => some (bif sure s o then .leaf (s.setO o.dst a) else .ite c (.leaf (s.setO o.dst a)) .fail)
      | _ => none
  else none

def unknow (d : Option Nat) (kn : List (Nat × Bool)) : List (Nat × Bool) :=
  match d with
  | some d => kn.filter fun p => !(p.1 == d)
  | none => kn

def treeOps (C : Ctx) (n : Nat) (no : Lim) (ops : Array Oper) : List Oper → (id : Nat) → (kn : List (Nat × Bool)) → St → Option Tree
  | [], _, _, s => some (.leaf s)
  | o :: l, id, kn, s => match o.guard with
    | none => (treeOp C n no id o s).bind fun t => t.bindO (treeOps C n no ops l (id + 16) (unknow o.dst kn))
    | some (j, want) => match guardSlot ops j with
      | some d => (match s.get d with
        | ⟨.ty .bool, b⟩ =>
          let on := fun c => bif c == want then (treeOp C n no id o (s.set d (.bool c))).bind fun t => t.bindO (treeOps C n no ops l (id + 16) (unknow o.dst ((d, c) :: kn)))
            else bif dstOk n o then treeOps C n no ops l (id + 16) (unknow o.dst ((d, c) :: kn)) ((s.set d (.bool c)).setO o.dst .undef) else none
          (match kn.find? (fun p => p.1 == d) with
          | some (_, c) => on c
          | none => match on true with
            | some t => (match on false with
              | some e => some (.ite b t e)
              | none => none)
            | none => none)
        | ⟨.tup (.ty .unit), _⟩ => bif dstOk n o then treeOps C n no ops l (id + 16) (unknow o.dst kn) (s.setO o.dst .undef) else none
        | _ => none)
      | none => none

def opsW (ops : Array Oper) : List Nat := ops.toList.filterMap (·.dst)

def codeW : Code → List Nat
  | .region _ ops _ => opsW ops
  | .seq a b => codeW a ++ codeW b
  | .cond _ a b => codeW a ++ codeW b
  | _ => []

/-- Code without loops, calls that are walked, and exits, as the states behind it. -/
def treeC (C : Ctx) (drawn : (FuncId → Bool) → Array Oper → Bool) (n : Nat) : Code → St → Option Tree
  | .skip, s => some (.leaf s)
  | .region _ ops draw, s =>
    if draw then
      (if drawn (fun g => (C.plain g).isSome) ops then (treeOps C n (limOf s s.next ops) ops ops.toList s.next [] { s with next := s.next + 16 * ops.size }).map (Tree.join (opsW ops) s) else none)
    else (treeOps C n noId ops ops.toList s.next [] { s with next := s.next + 16 * ops.size }).map (Tree.join (opsW ops) s)
  | .seq a b, s => (treeC C drawn n a s).bind fun t => t.bindO (treeC C drawn n b)
  | .cond c x y, s => match opnd s c with
    | ⟨.ty .bool, b⟩ => (match treeC C drawn n x s with
      | some t => (match treeC C drawn n y s with
        | some e => some (Tree.join (codeW x ++ codeW y) s (.ite b t e))
        | none => none)
      | none => none)
    | _ => none
  | _, _ => none

/-- Has code a label, where a jump from within finds it? -/
def hasLabel : Code → Nat → Bool
  | .seq a b, l => hasLabel a l || hasLabel b l
  | .label l', l => l' == l
  | _, _ => false

/-- A scope: on from its beginning, or from a label within, so many times at most. -/
def iterJ (f : Option Nat → St → Kont → Option R) (has : Nat → Bool) : Nat → Option Nat → St → Kont → Option R
  | 0, _, _, _ => none
  | m + 1, j, s, K => f j s fun e s' => match e with
    | .goto l => bif has l then iterJ f has m (some l) s' K else K (.goto l) s'
    | e => K e s'

/-- Code walked, from its beginning or from a label on. -/
def evJ (C : Ctx) (call : CallIn) (drawn : (FuncId → Bool) → Array Oper → Bool) (tset : Nat → Bool) (fid n unroll : Nat) : Code → Option Nat → St → Kont → Option R
  | .skip, none, s, K => K .normal s
  | .region id ops draw, none, s, K => match treeC C drawn n (.region id ops draw) s with
    | some t => t.fold (K .normal)
    | none => if draw then
        if drawn (fun g => (C.plain g).isSome) ops then runOps C call n (limOf s s.next ops) ops ops.toList s.next { s with next := s.next + 16 * ops.size } fun s => K .normal s else none
      else runOps C call n noId ops ops.toList s.next { s with next := s.next + 16 * ops.size } fun s => K .normal s
  | .seq a b, none, s, K => evJ C call drawn tset fid n unroll a none s fun e s' => match e with
    | .normal => evJ C call drawn tset fid n unroll b none s' K
    | e => K e s'
  | .seq a b, some l, s, K => bif hasLabel a l then evJ C call drawn tset fid n unroll a (some l) s fun e s' => match e with
      | .normal => evJ C call drawn tset fid n unroll b none s' K
      | e => K e s'
    else evJ C call drawn tset fid n unroll b (some l) s K
  | .cond c x y, none, s, K => match treeC C drawn n (.cond c x y) s with
    | some t => t.fold (K .normal)
    | none => match opnd s c with
      | ⟨.ty .bool, b⟩ => bif b then evJ C call drawn tset fid n unroll x none s K else evJ C call drawn tset fid n unroll y none s K
      | _ => none
  | .block id c, none, s, K => evJ C call drawn tset fid n unroll c none s fun e s' => match e with
    | .exit j => if j == id then K .normal s' else K (.exit j) s'
    | e => K e s'
  | .loop c, none, s, K => match (firstReg c).bind (C.loops fid) with
    | some L => if (L.M ++ L.T).all tset then inLoop L.run (L.M.map s.get) s.heap s.next fun e vals h nx ρ =>
        K e { ents := zipOn (mapV (·.ren ρ some) (without (L.M ++ L.T) s.ents s.ents)) L.M vals, heap := h, next := nx } else none
    | none => iter (evJ C call drawn tset fid n unroll c none) unroll s K
  | .scope c, none, s, K => iterJ (evJ C call drawn tset fid n unroll c) (hasLabel c) unroll none s K
  | .exit id, none, s, K => K (.exit id) s
  | .goto l, none, s, K => K (.goto l) s
  | .label _, none, s, K => K .normal s
  | .label l', some l, s, K => bif l' == l then K .normal s else none
  | .ret, none, s, K => K .ret s
  | _, _, _, _ => none

@[reducible] def ev (C : Ctx) (call : CallIn) (drawn : (FuncId → Bool) → Array Oper → Bool) (tset : Nat → Bool) (fid n unroll : Nat) (c : Code) (s : St) (K : Kont) : Option R :=
  evJ C call drawn tset fid n unroll c none s K

def enum : Nat → List AV → List (Nat × AV)
  | _, [] => []
  | k, a :: l => (k, a) :: enum (k + 1) l

def resOne (P : Program) (s : St) : ResultVar → Option AV
  | .tmp t => some (s.get t)
  | .cell a t => if known P t then loadAV P s noB t (s.get a) else none

def resMany (P : Program) (s : St) : List ResultVar → Option AV
  | [] => some .unit
  | r :: l => match resOne P s r, resMany P s l with
    | some a, some b => if a.solid then some ⟨.pair a.sh b.sh, (a.v, b.v)⟩ else none
    | _, _ => none

def resAV (P : Program) (s : St) (rs : List ResultVar) : Option AV :=
  match rs with
  | [r] => resOne P s r
  | rs => match resMany P s rs with
    | some a => some ⟨.tup a.sh, a.v⟩
    | none => none

/-- A function's code walked, its callees' too where nothing is known of them, to a depth. -/
def evF (C : Ctx) (drawn : (FuncId → Bool) → Array Oper → Bool) (unroll : Nat) : Nat → CallIn
  | 0, _, _, _, _, _ => none
  | d + 1, f, args, h, nx, K => match C.P.funcs[f]? with
    | some fn => (match fn.body with
      | some c => if args.length ≤ fn.ntmps then ev C (evF C drawn unroll d) drawn (fun _ => true) f fn.ntmps unroll c { ents := enum 0 args, heap := h, next := nx } fun e s =>
          match e with
          | .ret | .normal => (match resAV C.P s fn.results.toList with
            | some v => K v s.heap s.next
            | none => none)
          | _ => none
        else none
      | none => none)
    | none => none

end Go.Av
