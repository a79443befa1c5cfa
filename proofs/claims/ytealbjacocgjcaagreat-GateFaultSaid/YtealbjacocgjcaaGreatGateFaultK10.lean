/- Texts of the proof, one behind the other. -/
import Derived.Test.YtealbjacocgjcaaGreatGateFaultK9
section
namespace Go.Av
open Go
abbrev q9:=List (Nat×AV)
abbrev R:=AV×q9×Nat
abbrev qjU:=Exit→St→Option R
abbrev Plain:=List AV→Option (Bool×AV)
structure Loop where
 M:List Nat
 T:List Nat
 run:List AV→q9→Nat→(Exit→List AV→q9→Nat→Option R)→Option R
abbrev Body:=List AV→q9→Nat→(AV→q9→Nat→Option R)→Option R
structure Ctx where
 P:Program
 eqs:List TypeId
 plain:FuncId→Option Plain
 loops:FuncId→Nat→Option Loop
 bodies:FuncId→Option Body:=fun _=>none
 cuts:FuncId→Nat→Option Loop:=fun _ _=>none
 gets:FuncId→Option (Nat×TypeId):=fun _=>none
 owns:FuncId→Bool:=fun _=>false
def qHr (v:Value):AV:=⟨.tup (.lit v),()⟩
def qt9 (a:AV):Option Value :=
 match a.sh with
 | .tup (.lit v)=>some v
 |_=>none
def qyr:List PanicEntry→Option Value
 |[⟨v,false,false⟩]=>some v
 |_=>none
def Sh.boxes:Sh→List Nat
 | .pair a b=>a.boxes++b.boxes
 | .box id _=>[id]
 | .boxi id _ _ _=>[id]
 | .win id _=>[id]
 | .elp id _ _=>[id]
 | .mp id=>[id]
 | .nbox id=>[id]
 | .wsl _ id _=>[id]
 | .wref id _=>[id]
 | .fn _ caps=>caps.boxes
 | .tup a=>a.boxes
 | .tyc _ a=>a.boxes
 |_=>[]
def Sh.rows:Sh→List Nat
 | .pair a b=>a.rows++b.rows
 | .osl id _=>[id]
 | .tsl _ id=>[id]
 | .wsl (some id) _ _=>[id]
 | .fn _ caps=>caps.rows
 | .tup a=>a.rows
 | .tyc _ a=>a.rows
 |_=>[]
def qdw (l:List Nat):List Nat→List Nat
 |[]=>l
 |x::xs=>if l.contains x then qdw l xs else qdw (l++[x]) xs
def quN (h:q9):List Nat→List Nat
 |[]=>[]
 |id::l=>(match look id h with
  |some c=>c.sh.boxes
  |none=>[])++quN h l
def qi4 (h:q9):List Nat→List Nat
 |[]=>[]
 |id::l=>(match look id h with
  |some c=>c.sh.rows
  |none=>[])++qi4 h l
def qim (h:q9) (id:Nat):Bool:=(look id h).isSome
def reach (h:q9):Nat→List Nat→List Nat
 |0,l=>l
 |d+1,l=>reach h d (qdw l ((quN h l).filter (qim h)))
def qlz:List AV→List Nat
 |[]=>[]
 |a::l=>a.sh.boxes++qlz l
def allRows:List AV→List Nat
 |[]=>[]
 |a::l=>a.sh.rows++allRows l
def qbo (id:Nat):List Nat→Nat→Option Nat
 |[],_=>none
 |x::l,k=>if id==x then some k else qbo id l (k+1)
def qbv (N:Nat) (l:List Nat) (j:Nat):Option Nat :=
 match l[j]? with
 |some x=>some x
 |none=>some (N+j)
def qjG (h:q9) (ρ σ:Nat→Option Nat):List Nat→Nat→q9
 |[],_=>[]
 |id::l,k=>(match look id h with
  |some c=>[(k,c.ren ρ σ)]
  |none=>[])++qjG h ρ σ l (k+1)
def qcN (ts:List Nat) (j:Nat):Option Nat:=if ts.contains j then none else some j
def qhS (ρ σ:Nat→Option Nat) (h:q9):q9→q9
 |[]=>h
 |(j,c)::l=>match σ j with
  |some id=>put id (c.ren ρ σ) (qhS ρ σ h l)
  |none=>qhS ρ σ h l
def qnE (N:Nat) (bs:List Nat) (h:q9):q9→Bool
 |[]=>true
 |(j,_)::l=>(match bs[j]? with
  |some _=>true
  |none=>(look (N+j) h).isNone)&&qnE N bs h l
def qwj:List Nat→Bool
 |[]=>true
 |x::l=>!l.contains x&&qwj l
def qgd (_:Nat):Option Nat:=none
def qrT (own:Bool) (body:List AV→q9→Nat→(AV→q9→Nat→Option R)→Option R) (args:List AV) (s:St) (K:AV→St→Option R):Option R :=
 let bs:=reach s.heap 4 (qdw [] ((qlz args).filter (qim s.heap)))
 let ts:=qdw [] ((bif own then allRows args else[])++qi4 s.heap bs)
 let ρ:=fun id=>qbo id ts 0
 let σ:=fun id=>qbo id bs 0
 if qwj bs&&bs.all (qim s.heap) then
  body (args.map (·.ren (bif own then ρ else qgd) σ)) (qjG s.heap ρ σ bs 0) 64 fun v h nx =>
   if qnE s.next bs s.heap h then
    let ρ':=qbv s.next ts
    let σ':=qbv s.next bs
    K (v.ren ρ' σ') {ents:=qde (·.ren (qcN ts) some) s.ents,heap:=qhS ρ' σ' (qde (·.ren (qcN ts) some) s.heap) h,next:=s.next+nx}
   else none
 else none
def qb1:List Nat→List AV→List (Nat×AV)
 |t::M,a::l=>put t a (qb1 M l)
 |_,_=>[]
def without (T:List Nat) (l0:List (Nat×AV)):List (Nat×AV)→List (Nat×AV)
 |[]=>[]
 |(j,_)::l=>if T.contains j then without T l0 l else match look j l0 with
  |some v=>(j,v)::without T l0 l
  |none=>without T l0 l
def qm8 (base:List (Nat×AV)):List Nat→List AV→List (Nat×AV)
 |t::M,a::l=>put t a (qm8 base M l)
 |_,_=>base
def qgH (T:List Nat):List (Nat×AV)→Bool
 |[]=>true
 |(j,_)::l=>T.contains j&&qgH T l
def inLoop (run:List AV→q9→Nat→(Exit→List AV→q9→Nat→Option R)→Option R) (vals:List AV) (heap:q9) (next:Nat)
  (K:Exit→List AV→q9→Nat→(Nat→Option Nat)→Option R):Option R :=
 let bs:=reach heap 4 (qdw [] ((qlz vals).filter (qim heap)))
 let ts:=qdw [] (allRows vals++qi4 heap bs)
 let ρ:=fun id=>qbo id ts 0
 let σ:=fun id=>qbo id bs 0
 if qwj bs&&bs.all (qim heap) then
  run (vals.map (·.ren ρ σ)) (qjG heap ρ σ bs 0) 64 fun e vals' h nx =>
   if qnE next bs heap h then
    let ρ':=qbv next ts
    let σ':=qbv next bs
    K e (vals'.map (·.ren ρ' σ')) (qhS ρ' σ' (qde (·.ren (qcN ts) some) heap) h) (next+nx) (qcN ts)
   else none
 else none
def qg4:Code→Option Nat
 | .region id _ _=>some id
 | .seq a b=>match qg4 a with
  |some r=>some r
  |none=>qg4 b
 | .cond _ a b=>match qg4 a with
  |some r=>some r
  |none=>qg4 b
 | .block _ c=>qg4 c
 | .loop c=>qg4 c
 | .scope c=>qg4 c
 |_=>none
def qbw (n:Nat) (o:Oper):Bool :=
 match o.dst with
 |some d=>Nat.blt d n
 |none=>true
def unpack:Sh→(d:Nat)→Bool
 | .ty .unit,_=>true
 |_,0=>false
 | .pair a b,d+1=>!a.agg&&unpack b d
 | .ty (.pair a b),d+1=>!a.agg&&unpack (.ty b) d
 |_,_=>false
def parts:Nat→AV→List AV
 |0,_=>[]
 |d+1,a=>match a.split with
  |some (p,q)=>p::parts d q
  |none=>[]
def qg7 (s:St) (c:Call):Option (FuncId×List AV) :=
 match c.callee with
 | .value f=>match qD s f with
  |⟨.fn g caps,x⟩=>if unpack caps 12 then some (g,c.args.toList.map (qD s)++parts 12 ⟨caps,x⟩) else none
  |⟨.ty .func,some g⟩=>some (g,c.args.toList.map (qD s))
  |_=>none
 |_=>none
def qsm (s:St) (f:Nat→Bool) (a:AV):AV :=
 match a with
 |⟨.win id e,y⟩=>(match qbF s f id with
  |some ⟨.rowc e',xs⟩=>(match Ty.dec e' e with
   |isTrue h=>if 0<e.size then⟨.ty (.sl e),shown (h▸xs:List e.den) y⟩ else⟨.win id e,y⟩
   |isFalse _=>⟨.win id e,y⟩)
  |_=>⟨.win id e,y⟩)
 |a=>a
def qvN:AV→Option Nat
 |⟨.win id _,_⟩=>some id
 |_=>none
def qv9:Option AV→Bool
 |some ⟨.rowc .bool,_⟩=>true
 |_=>false
def qLk:Sh→Bool
 | .ty (.sl (.int _)) | .ty (.int _) | .ty .bool | .osl _ (.int _)=>true
 |_=>false
def qkF (s:St) (f:Nat→Bool) (a:AV):Option (List Nat×AV) :=
 match a with
 |⟨.box id 0,_⟩=>(match qbF s f id with
  |some ⟨.pair (.ty t) (.pair (.wsl _ rid e) (.ty .unit)),x⟩=>(match qbF s f rid with
   |some ⟨.rowc e',xs⟩=>(match Ty.dec e' e with
    |isTrue h=>if 0<e.size then some ([id,rid],⟨.ref (.pair t (.pair (.sl (.sl e)) .unit)) 0,(x.1,rowsOf (h▸xs:List e.den) x.2.1,())⟩) else none
    |isFalse _=>none)
   |_=>none)
  |_=>none)
 |_=>none
def qoX (s:St) (f:Nat→Bool) (a:AV):AV :=
 match qkF s f a with
 |some p=>p.2
 |none=>a.ren qgd qgd
def qsn:Sh→Bool
 | .ty (.int _) | .ty .bool | .ty .str=>true
 |_=>false
def qtH:AV:=⟨.tup (.tup (.ty .unit)),()⟩
def qrf (s:St) (f:Nat→Bool) (a:AV):Option (List Nat×AV×AV) :=
 match a with
 |⟨.box id 0,_⟩=>(match qbF s f id with
  |some ⟨.pair (.ty (.sl e)) (.pair (.ty (.int .i64)) (.pair (.mp m) _)),x⟩=>(match qbF s f m with
   |some ⟨.mapc,en⟩=>some ([id,m],⟨.ty (.sl e),x.1⟩,⟨.mapc,en⟩)
   |_=>none)
  |_=>none)
 |_=>none
def qo4 (s:St) (f:Nat→Bool) (args:List AV):Option (List AV) :=
 match args with
 |a::rest=>(match qrf s f a with
  |some p=>some (qtH::p.2.1::p.2.2::rest.map (·.ren qgd qgd))
  |none=>none)
 |[]=>none
def qo7 (s:St) (f:Nat→Bool) (ps:Plain) (args:List AV):Option (Bool×AV) :=
 match qo4 s f args with
 |some l=>(match ps l with
  |some v=>if qsn v.2.sh then some v else none
  |none=>none)
 |none =>
 bif args.any (fun a=>(qkF s f a).isSome) then
  match ps (args.map (qoX s f)) with
   |some v=>if qsn v.2.sh then some v else none
   |none=>none
 else match args.filterMap qvN with
 |[]=>ps (args.map (·.ren qgd qgd))
 |i::l=>bif (i::l).all fun i=>qv9 (qbF s f i) then
   match ps (args.map fun a=>(qsm s f a).ren qgd qgd) with
   |some v=>if qLk v.2.sh then some v else none
   |none=>none
  else none
def qvh (P:Program) (s:St) (f:Nat→Bool) (p:Nat×TypeId) (args:List AV):Option (Bool×AV) :=
 match args with
 |[⟨.box id 0,_⟩]=>bif known P p.2 then(match qiJ P s f p.2 (.box id p.1) with
  |some v=>bif qsn v.sh then some (true,v) else none
  |none=>none) else none
 |_=>none
def qcF (C:Ctx) (s:St) (no:Lim) (id:Nat) (o:Oper):Res Eff :=
 match o.op with
 | .call c=>match qg7 s c with
  |some (g,args)=>(match C.plain g with
   |some ps=>(match C.gets g with
    |some p=>(qvh C.P s (no.rd id) p args).map fun v=>(v.1,.val v.2)
    |none=>(qo7 s (no.rd id) ps args).map fun v=>(v.1,.val (v.2.ren (qbv id []) (qbv id []))))
   |none=>none)
  |none=>opE C.P C.eqs s no id o
 |_=>opE C.P C.eqs s no id o
def walked (C:Ctx) (s:St) (o:Oper):Option (FuncId×List AV) :=
 match o.op with
 | .call c=>match qg7 s c with
  |some (g,args)=>(match C.plain g with
   |some _=>none
   |none=>some (g,args))
  |none=>none
 |_=>none
abbrev qcM:=FuncId→List AV→q9→Nat→(AV→q9→Nat→Option R)→Option R
def qgg (C:Ctx) (call:qcM) (n:Nat) (no:Lim) (id:Nat) (o:Oper) (s:St) (K:St→Option R):Option R :=
 bif qbw n o then
  match walked C s o with
  |some (g,args)=>qrT (C.owns g) (call g) args s fun v s'=>match qt9 v with
   |some _=>none
   |none=>K (s'.setO o.dst v)
  |none=>match qcF C s no id o with
   |some (c,e)=>bif c then K (s.apply o.dst e) else none
   |none=>none
 else none
def Ty.cellsV:(t:Ty)→t.den→Option (List Value)
 | .unit,_=>some []
 | .pair a b,x=>match Ty.cellsV a x.1,Ty.cellsV b x.2 with
  |some c,some d=>some (c++d)
  |_,_=>none
 | .int k,n=>some [.int k n]
 | .bool,b=>some [.bool b]
 | .str,s=>some [.string ⟨⟨s⟩⟩]
 |_,_=>none
def AV.value (a:AV):Option Value :=
 match a with
 |⟨.ty t,x⟩=>(match t.cellsV x with
  |some cs=>some (mkV t.agg cs)
  |none=>none)
 |_=>none
def isIface:Value→Bool
 | .iface _ _=>true
 |_=>false
def qdY (b:List UInt8):List Int:=b.map fun b=>(b.toNat:Int)
def qtx (a:AV):Option (List Int) :=
 match a with
 |⟨.ty .str,b⟩=>some (qdY b)
 |a=>qvY a
def bytesOf (xs:List Int):List UInt8:=xs.map toByte
def opY (P:Program) (s:St) (id:Nat) (o:Oper):Res Eff :=
 match o.op with
 | .makeInterface t x=>match P.underlying t with
  |some (.interface _)=>none
  |some _=>(qD s x).value.map fun v=>(true,.val (.lit (.iface t v)))
  |none=>none
 | .makeSlice t (.tmp i) (.tmp j)=>match P.underlying t,qgW (qD s (.tmp i)) with
  |some (.slice e),some c=>(match qhv P qfy e,qte P e,P.info? e with
   |some τ,some z,some inf=>(match z.as τ with
    |some z=>if i=j∧P.cellsOf e=τ.size∧0<τ.size∧(look id s.heap).isNone=true then
      some (qgh c inf.bytes,.new id ⟨.rowc τ,zeros c z⟩ ⟨.win id τ,(0,qc0 0 c)⟩) else none
    |none=>none)
   |_,_,_=>none)
  |_,_=>none
 | .makeMap _ none=>if(look id s.heap).isNone=true then some (true,.new id ⟨.mapc,[]⟩ ⟨.mp id,()⟩) else none
 | .convert t u x=>match P.underlying t,P.underlying u,qD s x with
  |some (.slice e),some .string,⟨.win b (.int .u8),y⟩=>(match look b s.heap with
   |some ⟨.rowc (.int .u8),xs⟩=>if qv0 P e=true then yes (.val (.str (bytesOf (shown (xs:List Int) y)))) else none
   |_=>none)
  |_,_,_=>none
 | .call c=>match c.callee with
  | .builtin .copy=>(match c.argTypes.toList,c.args.toList with
   |[t,_],[x,y]=>(match P.underlying t,qD s x with
    |some (.slice el),⟨.win b (.int .u8),v⟩=>(match look b s.heap,qtx (qD s y),P.info? el with
     |some ⟨.rowc (.int .u8),xs⟩,some ys,some i=>if i.size=1 then yes (.put b ⟨.rowc (.int .u8),qdG (xs:List Int) v.1 ys v.2⟩) else none
     |_,_,_=>none)
    |_,_=>none)
   |_,_=>none)
  |_=>none
 |_=>none
def opZ (P:Program) (s:St) (o:Oper):Option St :=
 match o.op with
 | .slice t x none none none=>match P.underlying t,qD s x with
  |some (.array n el),⟨.box id 0,_⟩=>(match look id s.heap with
   |some ⟨.ty (.arr m e),xs⟩=>if m=n∧P.cellsOf el=e.size∧known P el=true∧0<e.size∧0<n then
     some {s.setO o.dst ⟨.win id e,(0,n)⟩ with heap:=Av.put id ⟨.rowc e,xs⟩ s.heap} else none
   |_=>none)
  |_,_=>none
 |_=>none
def panics (s:St) (o:Oper):Option (Option Value) :=
 match o.op with
 | .panic x=>(match qD s x with
  |⟨.lit v,_⟩=>if isIface v then some (some v) else some none
  |_=>some none)
 |_=>none
def qt1 (C:Ctx) (call:qcM) (n:Nat) (no:Lim) (id:Nat) (o:Oper) (s:St) (K:St→Option R) (Kp:Value→St→Option R):Option R :=
 bif qbw n o then
  match panics s o with
  |some (some v)=>Kp v s
  |some none=>none
  |none=>match walked C s o with
   |some (g,args)=>qrT (C.owns g) (call g) args s fun v s'=>match qt9 v with
    |some u=>Kp u s'
    |none=>K (s'.setO o.dst v)
   |none=>match opZ C.P s o with
    |some s'=>K s'
    |none=>match opY C.P s id o with
     |some (c,e)=>bif c then K (s.apply o.dst e) else none
     |none=>match qcF C s no id o with
      |some (c,e)=>bif c then K (s.apply o.dst e) else none
      |none=>none
 else none
def qf2 (ops:Array Oper) (j:Nat):Option Nat:=(ops[j]?).bind (·.dst)
def qcw (C:Ctx) (call:qcM) (n:Nat) (no:Lim) (ops:Array Oper):List Oper→(id:Nat)→St→(St→Option R)→Option R
 |[],_,s,K=>K s
 |o::l,id,s,K=>match o.guard with
  |none=>qgg C call n no id o s fun s=>qcw C call n no ops l (id+16) s K
  |some (j,want)=>match qf2 ops j with
   |some d=>(match s.get d with
    |⟨.ty .bool,b⟩=>bif b then
      (bif want then qgg C call n no id o (s.set d (.bool true)) fun s=>qcw C call n no ops l (id+16) s K
       else bif qbw n o then qcw C call n no ops l (id+16) ((s.set d (.bool true)).setO o.dst .undef) K else none)
     else(bif want then bif qbw n o then qcw C call n no ops l (id+16) ((s.set d (.bool false)).setO o.dst .undef) K else none
       else qgg C call n no id o (s.set d (.bool false)) fun s=>qcw C call n no ops l (id+16) s K)
    |⟨.tup (.ty .unit),_⟩=>bif qbw n o then qcw C call n no ops l (id+16) (s.setO o.dst .undef) K else none
    |_=>none)
   |none=>none
def qrV (C:Ctx) (call:qcM) (n:Nat) (no:Lim) (ops:Array Oper):List Oper→(id:Nat)→St→(St→Option R)→(Value→St→Option R)→Option R
 |[],_,s,K,_=>K s
 |o::l,id,s,K,Kp=>match o.guard with
  |none=>qt1 C call n no id o s (fun s=>qrV C call n no ops l (id+16) s K Kp) Kp
  |some (j,want)=>match qf2 ops j with
   |some d=>(match s.get d with
    |⟨.ty .bool,b⟩=>bif b then
      (bif want then qt1 C call n no id o (s.set d (.bool true)) (fun s=>qrV C call n no ops l (id+16) s K Kp) Kp
       else bif qbw n o then qrV C call n no ops l (id+16) ((s.set d (.bool true)).setO o.dst .undef) K Kp else none)
     else(bif want then bif qbw n o then qrV C call n no ops l (id+16) ((s.set d (.bool false)).setO o.dst .undef) K Kp else none
       else qt1 C call n no id o (s.set d (.bool false)) (fun s=>qrV C call n no ops l (id+16) s K Kp) Kp)
    |⟨.tup (.ty .unit),_⟩=>bif qbw n o then qrV C call n no ops l (id+16) (s.setO o.dst .undef) K Kp else none
    |_=>none)
   |none=>none
def iter (f:St→qjU→Option R):Nat→St→qjU→Option R
 |0,_,_=>none
 |m+1,s,K=>f s fun e s'=>match e with
  | .normal=>iter f m s' K
  |e=>K e s'
def qNz:Lim:=⟨fun _ _=>false,fun _ _=>true⟩
def noB (_:Nat):Bool:=false
def makes (base:Nat):List Oper→Nat→List Nat
 |[],_=>[]
 |o::l,id=>match o.op with
  | .alloc _ | .box _ _=>id::makes base l (id+16)
  |_=>makes base l (id+16)
def edges (o:Oper):List Nat:=o.after.toList.filterMap fun e=>if Region.binds .any e then some e.on else none
def qr1 (acc:List Nat):List Nat→Nat
 |[]=>0
 |e::l=>((1 <<< e) |||acc.getD e 0) |||qr1 acc l
def qoz:List Oper→List Nat→List Nat
 |[],acc=>acc
 |o::l,acc=>qoz l (acc++[qr1 acc (edges o)])
def qzn (t:Nat):List Oper→Option Oper
 |[]=>none
 |o::l=>match o.dst with
  |some d=>if d==t then some o else qzn t l
  |none=>qzn t l
def qNJ (s:St) (ops:List Oper):Nat→Nat→Option Nat
 |0,_=>none
 |d+1,t=>match qzn t ops with
  |some o=>(match o.op with
   | .fieldAddr _ (.tmp x) _ | .indexAddr _ (.tmp x) _ | .nilCheck (.tmp x) | .move (.tmp x) | .assign (.tmp x)=>qNJ s ops d x
   |_=>none)
  |none=>(match s.get t with
   |⟨.box id _,_⟩=>some id
   |⟨.boxi id _ _ _,_⟩=>some id
   |⟨.win id _,_⟩=>some id
   |⟨.elp id _ _,_⟩=>some id
   |_=>none)
def qrL (s:St) (ops:List Oper) (o:Oper):Option (Option Nat) :=
 match o.op with
 | .store _ (.tmp t) _=>some (qNJ s ops 8 t)
 | .store _ _ _=>some none
 |_=>none
def qHI (b:Nat):Option Nat→Bool
 |some c=>c==b
 |none=>true
def unordered (anc:List Nat) (i k:Nat):Bool:=bif Nat.blt i k then !(anc.getD k 0).testBit i else !(anc.getD i 0).testBit k
def clash (anc:List Nat) (i b:Nat):Nat→List (Option (Option Nat))→Bool
 |_,[]=>false
 |k,none::l=>clash anc i b (k+1) l
 |k,some w::l=>(unordered anc i k&&qHI b w)||clash anc i b (k+1) l
def qvT (s:St) (base:Nat) (ops:Array Oper):Lim where
 rd:=fun id b=>(makes base ops.toList base).contains b||clash (qoz ops.toList []) ((id-base) / 16) b 0 (ops.toList.map (qrL s ops.toList))
 wr:=fun id b=>match (ops.toList.map (qrL s ops.toList)).getD ((id-base) / 16) none with
  |some w=>qHI b w
  |none=>true
inductive Tree where
 |leaf (s:St)
 |ite (b:Bool) (t e:Tree)
 |fail
def Tree.fold (K:St→Option R):Tree→Option R
 | .leaf s=>K s
 | .ite b t e=>bif b then t.fold K else e.fold K
 | .fail=>none
def Tree.bindO (f:St→Option Tree):Tree→Option Tree
 | .leaf s=>f s
 | .ite b t e=>match t.bindO f with
  |some t=>(match e.bindO f with
   |some e=>some (.ite b t e)
   |none=>none)
  |none=>none
 | .fail=>some .fail
def AV.known (a:AV):Bool :=
 match a.sh with
 | .top=>false
 | .tup (.ty .unit)=>false
 |_=>true
def Sh.merge (b:Bool):(s:Sh)→s.den→(t:Sh)→t.den→Option AV
 | .osl i e,x,.osl j e',y=>match Ty.dec e e' with
  |isTrue h=>if i=j then some ⟨.osl j e',bif b then h▸x else y⟩ else some ⟨.ty (.sl e'),bif b then h▸x else y⟩
  |isFalse _=>none
 | .box i o,_,.box j o',_=>if i=j∧o=o' then some (.box j o') else none
 | .ref τ o,x,.ref τ' o',y=>match Ty.dec τ τ' with
  |isTrue h=>if o=o' then some ⟨.ref τ' o',bif b then h▸x else y⟩ else none
  |isFalse _=>none
 |s,x,.ty τ,y=>match s.as x τ with
  |some x'=>some ⟨.ty τ,bif b then x' else y⟩
  |none=>none
 | .ty τ,x,t,y=>match t.as y τ with
  |some y'=>some ⟨.ty τ,bif b then x else y'⟩
  |none=>none
 | .pair p q,x,.pair p' q',y=>match Sh.merge b p x.1 p' y.1,Sh.merge b q x.2 q' y.2 with
  |some u,some v=>some (AV.qkq u v)
  |_,_=>none
 |_,_,_,_=>none
def AV.merge (b:Bool) (x y:AV):Option AV :=
 if x.known&&y.known then Sh.merge b x.sh x.v y.sh y.v else some .top
def qy0 (b:Bool) (s1 s2:St):List Nat→List (Nat×AV)→Option (List (Nat×AV))
 |[],e=>some e
 |t::W,e=>match AV.merge b (s1.get t) (s2.get t) with
  |some v=>qy0 b s1 s2 W (put t v e)
  |none=>none
def qGY (W:List Nat) (s:St) (b:Bool) (s1 s2:St):Option St :=
 (qy0 b s1 s2 W s.ents).map fun e=>{s with ents:=e,next:=max s1.next s2.next}
def qNq (b:Bool):Option Bool→Option Bool
 |none=>some b
 |some c=>some (b&&c)
def qQw (b:Bool):Option Bool→Option Bool→Option Bool
 |none,none=>none
 |none,some d=>some (bif b then true else d)
 |some c,none=>some (bif b then c else true)
 |some c,some d=>some (bif b then c else d)
def Tree.merge (W:List Nat) (s:St):Tree→Option (Option Bool×St)
 | .leaf s1=>some (none,s1)
 | .fail=>none
 | .ite b t .fail=>(t.merge W s).map fun p=>(qNq b p.1,p.2)
 | .ite b .fail e=>(e.merge W s).map fun p=>(qNq (!b) p.1,p.2)
 | .ite b t e=>match t.merge W s with
  |some p=>(match e.merge W s with
   |some q=>(qGY W s b p.2 q.2).map fun s'=>(qQw b p.1 q.1,s')
   |none=>none)
  |none=>none
def Tree.join (W:List Nat) (s:St) (t:Tree):Tree :=
 match t.merge W s with
 |some (none,s')=>.leaf s'
 |some (some c,s')=>.ite c (.leaf s') .fail
 |none=>t
def sure (s:St) (o:Oper):Bool :=
 match o.op with
 | .move _ | .assign _ | .pick .. | .box .. | .build .. | .buildSlice .. | .load .. | .nilCheck _ | .unOp .. | .convert .. | .makeFunc .. | .fieldAddr .. | .field .. | .extract ..=>true
 | .binOp op _ x y _=>(match op with
  | .sub | .mul | .and | .or | .xor | .andNot | .eql | .neq | .lss | .leq | .gtr | .geq=>true
  | .add=>(match qD s x with
   |⟨.ty (.int _),_⟩=>true
   |_=>false)
  | .shl | .shr=>(match y with
   | .const (.int _ n)=>decide (0≤n)
   |_=>false)
  | .quo | .rem=>(match y with
   | .const (.int _ n)=>decide (n≠0)
   |_=>false))
 | .call c=>(match c.callee with
  | .builtin .len | .builtin .min | .builtin .max=>true
  |_=>false)
 |_=>false
def qmu (C:Ctx) (n:Nat) (no:Lim) (id:Nat) (o:Oper) (s:St):Option Tree :=
 bif qbw n o then
  match walked C s o with
  |some _=>none
  |none=>match qcF C s no id o with
   |some (c,.val a)=>some (bif sure s o then .leaf (s.setO o.dst a) else .ite c (.leaf (s.setO o.dst a)) .fail)
   |_=>none
 else none
def qol (d:Option Nat) (kn:List (Nat×Bool)):List (Nat×Bool) :=
 match d with
 |some d=>kn.filter fun p=>!(p.1==d)
 |none=>kn
def qw7 (kn:List (Nat×Bool)):Operand→Option Bool
 | .const (.bool b)=>some b
 | .tmp t=>(kn.find? fun p=>p.1==t).map (·.2)
 |_=>none
def qCC (kn:List (Nat×Bool)) (o:Oper):Option Bool :=
 match o.op with
 | .move (.tmp t)=>qw7 kn (.tmp t)
 | .assign (.tmp t)=>qw7 kn (.tmp t)
 | .pick c a b=>match qw7 kn c with
  |some true=>qw7 kn a
  |some false=>qw7 kn b
  |none=>none
 |_=>none
def learn (o:Oper) (kn:List (Nat×Bool)):List (Nat×Bool) :=
 match o.dst,qCC kn o with
 |some d,some b=>(d,b)::qol (some d) kn
 |d,_=>qol d kn
def qdT (C:Ctx) (n:Nat) (no:Lim) (ops:Array Oper):List Oper→(id:Nat)→(kn:List (Nat×Bool))→St→Option Tree
 |[],_,_,s=>some (.leaf s)
 |o::l,id,kn,s=>match o.guard with
  |none=>(qmu C n no id o s).bind fun t=>t.bindO (qdT C n no ops l (id+16) (learn o kn))
  |some (j,want)=>match qf2 ops j with
   |some d=>(match s.get d with
    |⟨.ty .bool,b⟩ =>
     let on:=fun c=>bif c==want then(qmu C n no id o (s.set d (.bool c))).bind fun t=>t.bindO (qdT C n no ops l (id+16) (learn o ((d,c)::kn)))
      else bif qbw n o then qdT C n no ops l (id+16) (qol o.dst ((d,c)::kn)) ((s.set d (.bool c)).setO o.dst .undef) else none
     (match kn.find? (fun p=>p.1==d) with
     |some (_,c)=>on c
     |none=>match on true with
      |some t=>(match on false with
       |some e=>some (.ite b t e)
       |none=>none)
      |none=>none)
    |⟨.tup (.ty .unit),_⟩=>bif qbw n o then qdT C n no ops l (id+16) (qol o.dst kn) (s.setO o.dst .undef) else none
    |_=>none)
   |none=>none
def qQy:Operand→Option Nat
 | .tmp t=>some t
 |_=>none
def isFirst (o:Oper):Bool :=
 match o.guard with
 |none=>(match o.op with
  | .move _ | .assign _ | .load .. | .fieldAddr ..=>true
  |_=>false)
 |some _=>false
def qxl:List Oper→List Bool→List Bool
 |[],acc=>acc
 |o::l,acc=>qxl l (acc++[isFirst o&&(edges o).all fun e=>acc.getD e false])
def idxOf (want:Bool):List Bool→Nat→List Nat
 |[],_=>[]
 |b::l,k=>bif b==want then k::idxOf want l (k+1) else idxOf want l (k+1)
def qv5 (ops:Array Oper):List Nat→Array Bool→Bool
 |[],_=>true
 |i::l,listed=>Region.free .any ops listed i&&((Region.ready .any ops listed).contains i&&qv5 ops l (listed.setIfInBounds i true))
def qti (ops:Array Oper):List Nat→Array Bool→Bool
 |[],listed=>(Region.ready .any ops listed).isEmpty
 |i::l,listed=>(Region.ready .any ops listed==[i])&&qti ops l (listed.setIfInBounds i true)
def qIr (F:List Nat) (l:Array Bool):Array Bool:=F.foldl (fun l i=>l.setIfInBounds i true) l
def qse (ops:Array Oper):List Nat:=idxOf true (qxl ops.toList []) 0
def qua (ops:Array Oper):List Nat:=idxOf false (qxl ops.toList []) 0
def qKj (ops:Array Oper):Bool :=
 Region.noSelect ops&&(Nat.beq ((qse ops).length+(qua ops).length) ops.size &&
  (qv5 ops (qse ops) (Array.replicate ops.size false)&&qti ops (qua ops) (qIr (qse ops) (Array.replicate ops.size false))))
def qzG (C:Ctx) (s:St) (o:Oper):Option (AV×List Nat) :=
 match o.op with
 | .move x=>some (qD s x,[])
 | .assign x=>some (qD s x,[])
 | .load t x=>(match qD s x with
  |⟨.box id off,_⟩=>bif known C.P t then(match qiJ C.P s noB t (.box id off) with
   |some v=>some (v,[id])
   |none=>none) else none
  |_=>none)
 | .fieldAddr t x f=>(match qth C.P t f with
  |some fl=>if C.P.cellsOf fl.type=0∨!known C.P fl.type then none else(match qD s x with
   |⟨.box id off,_⟩=>some (.box id (off+fl.offset),[])
   |_=>none)
  |none=>none)
 |_=>none
def qld (C:Ctx) (n:Nat) (ops:Array Oper):List Nat→St→List Nat→Option (St×List Nat)
 |[],s,lb=>some (s,lb)
 |i::l,s,lb=>match ops[i]? with
  |some o=>bif isFirst o&&qbw n o then(match qzG C s o with
   |some (v,b)=>qld C n ops l (s.setO o.dst v) (lb++b)
   |none=>none) else none
  |none=>none
def qHp (C:Ctx) (call:qcM) (n:Nat) (ops:Array Oper):List Nat→(id:Nat)→St→(St→Option R)→(Value→St→Option R)→Option R
 |[],_,s,K,_=>K s
 |i::l,id,s,K,Kp=>match ops[i]? with
  |some o=>bif o.guard.isNone then qt1 C call n qNz id o s (fun s=>qHp C call n ops l (id+16) s K Kp) Kp else none
  |none=>none
def qNR (ops:Array Oper):List Nat→List Nat
 |[]=>[]
 |i::l=>(match ops[i]? with
  |some o=>o.op.operands.toList.filterMap qQy++o.dst.toList
  |none=>[])++qNR ops l
def qNW (ops:Array Oper):List Nat→List Nat
 |[]=>[]
 |i::l=>(match ops[i]? with
  |some o=>(match o.op with
   | .move (.const _) | .assign (.const _)=>o.dst.toList
   |_=>[])
  |none=>[])++qNW ops l
def qwh (ops:Array Oper):List Nat:=qNR ops (qua ops)++qNW ops (qse ops)
def qO8 (lb:List Nat) (vals:List AV) (h:q9):Bool :=
 lb.all fun id=>!(reach h 4 (qdw [] ((qlz vals).filter (qim h)))).contains id
def qry (ops:Array Oper):List Nat:=ops.toList.filterMap (·.dst)
def qJG (C:Ctx) (call:qcM) (n:Nat) (ops:Array Oper) (M T:List Nat):List AV→q9→Nat→(Exit→List AV→q9→Nat→Option R)→Option R:=fun vals heap nx Ke =>
 qHp C call n ops (qua ops) nx {ents:=qb1 M vals,heap:=heap,next:=nx+16*ops.size}
  (fun s=>if qgH (M++T) s.ents then Ke .normal (M.map s.get) s.heap s.next else none)
  (fun v s=>if qgH (M++T) s.ents then Ke (.panic [⟨v,false,false⟩]) (M.map s.get) s.heap s.next else none)
def qKx (ops:Array Oper):Bool:=ops.toList.any fun o=>match o.op with
 | .makeSlice _ (.tmp _) _=>true
 |_=>false
def qHd (s1:St) (M T:List Nat) (K:qjU):Exit→List AV→q9→Nat→(Nat→Option Nat)→Option R:=fun e vals h nx ρ =>
 match e with
 | .normal=>K .normal {ents:=qm8 (qde (·.ren ρ some) (without (M++T) s1.ents s1.ents)) M vals,heap:=h,next:=nx}
 | .panic ch=>K (.panic ch) {ents:=qde (·.ren ρ some) (without (M++T) s1.ents s1.ents),heap:=h,next:=nx}
 |_=>none
def qHV (C:Ctx) (call:qcM) (tset:Nat→Bool) (n:Nat) (ops:Array Oper) (s:St) (K:qjU):Option R :=
 if qKj ops&&(qwh ops++qry ops).all tset then
  match qld C n ops (qse ops) s [] with
  |some (s1,lb) =>
   if qO8 lb ((qwh ops).map s1.get) s1.heap then
    inLoop (qJG C call n ops (qwh ops) (qry ops)) ((qwh ops).map s1.get) s1.heap s1.next (qHd s1 (qwh ops) (qry ops) K)
   else none
  |none=>none
 else none
def qel:Code→List Nat
 | .region _ ops _=>qry ops
 | .seq a b=>qel a++qel b
 | .cond _ a b=>qel a++qel b
 |_=>[]
def qkS (C:Ctx) (drawn:(FuncId→Bool)→Array Oper→Bool) (n:Nat):Code→St→Option Tree
 | .skip,s=>some (.leaf s)
 | .region _ ops draw,s =>
  if draw then
   (if drawn (fun g=>(C.plain g).isSome) ops then(qdT C n (qvT s s.next ops) ops ops.toList s.next [] {s with next:=s.next+16*ops.size}).map (Tree.join (qry ops) s) else none)
  else(qdT C n qNz ops ops.toList s.next [] {s with next:=s.next+16*ops.size}).map (Tree.join (qry ops) s)
 | .seq a b,s=>(qkS C drawn n a s).bind fun t=>t.bindO (qkS C drawn n b)
 | .cond c x y,s=>match qD s c with
  |⟨.ty .bool,b⟩=>(match qkS C drawn n x s with
   |some t=>(match qkS C drawn n y s with
    |some e=>some (Tree.join (qel x++qel y) s (.ite b t e))
    |none=>none)
   |none=>none)
  |_=>none
 |_,_=>none
def qlA:Code→Nat→Bool
 | .seq a b,l=>qlA a l||qlA b l
 | .label l',l=>l'==l
 |_,_=>false
def qBc (f:Option Nat→St→qjU→Option R) (has:Nat→Bool):Nat→Option Nat→St→qjU→Option R
 |0,_,_,_=>none
 |m+1,j,s,K=>f j s fun e s'=>match e with
  | .goto l=>bif has l then qBc f has m (some l) s' K else K (.goto l) s'
  |e=>K e s'
def qvx:Code→Option Nat
 | .region r _ _=>some (2*r)
 | .seq (.region r _ _) _=>some (2*r+1)
 |_=>none
def evJ (C:Ctx) (call:qcM) (drawn:(FuncId→Bool)→Array Oper→Bool) (tset:Nat→Bool) (fid n unroll:Nat):Code→Option Nat→St→qjU→Option R
 | .skip,none,s,K=>K .normal s
 | .region id ops draw,none,s,K=>match qkS C drawn n (.region id ops draw) s with
  |some t=>t.fold (K .normal)
  |none=>if draw then
    if drawn (fun g=>(C.plain g).isSome) ops&&!qKx ops then qcw C call n (qvT s s.next ops) ops ops.toList s.next {s with next:=s.next+16*ops.size} fun s=>K .normal s
    else qHV C call tset n ops {s with next:=s.next+16*ops.size} K
   else qrV C call n qNz ops ops.toList s.next {s with next:=s.next+16*ops.size} (fun s=>K .normal s) (fun v s=>K (.panic [⟨v,false,false⟩]) s)
 | .seq a b,none,s,K=>match (qvx a).bind (C.cuts fid) with
  |some L=>if(L.M++L.T).all tset then inLoop L.run (L.M.map s.get) s.heap s.next fun e vals h nx ρ =>
    K e {ents:=qm8 (qde (·.ren ρ some) (without (L.M++L.T) s.ents s.ents)) L.M vals,heap:=h,next:=nx} else none
  |none=>evJ C call drawn tset fid n unroll a none s fun e s'=>match e with
   | .normal=>evJ C call drawn tset fid n unroll b none s' K
   |e=>K e s'
 | .seq a b,some l,s,K=>bif qlA a l then evJ C call drawn tset fid n unroll a (some l) s fun e s'=>match e with
   | .normal=>evJ C call drawn tset fid n unroll b none s' K
   |e=>K e s'
  else evJ C call drawn tset fid n unroll b (some l) s K
 | .cond c x y,none,s,K=>match qkS C drawn n (.cond c x y) s with
  |some t=>t.fold (K .normal)
  |none=>match qD s c with
   |⟨.ty .bool,b⟩=>bif b then evJ C call drawn tset fid n unroll x none s K else evJ C call drawn tset fid n unroll y none s K
   |_=>none
 | .block id c,none,s,K=>evJ C call drawn tset fid n unroll c none s fun e s'=>match e with
  | .exit j=>if j==id then K .normal s' else K (.exit j) s'
  |e=>K e s'
 | .loop c,none,s,K=>match (qg4 c).bind (C.loops fid) with
  |some L=>if(L.M++L.T).all tset then inLoop L.run (L.M.map s.get) s.heap s.next fun e vals h nx ρ =>
    K e {ents:=qm8 (qde (·.ren ρ some) (without (L.M++L.T) s.ents s.ents)) L.M vals,heap:=h,next:=nx} else none
  |none=>iter (evJ C call drawn tset fid n unroll c none) unroll s K
 | .scope c,none,s,K=>qBc (evJ C call drawn tset fid n unroll c) (qlA c) unroll none s K
 | .exit id,none,s,K=>K (.exit id) s
 | .goto l,none,s,K=>K (.goto l) s
 | .label _,none,s,K=>K .normal s
 | .label l',some l,s,K=>bif l'==l then K .normal s else none
 | .ret,none,s,K=>K .ret s
 |_,_,_,_=>none
@[reducible] def ev (C:Ctx) (call:qcM) (drawn:(FuncId→Bool)→Array Oper→Bool) (tset:Nat→Bool) (fid n unroll:Nat) (c:Code) (s:St) (K:qjU):Option R :=
 evJ C call drawn tset fid n unroll c none s K
def enum:Nat→List AV→List (Nat×AV)
 |_,[]=>[]
 |k,a::l=>(k,a)::enum (k+1) l
def qyM (P:Program) (s:St):ResultVar→Option AV
 | .tmp t=>some (s.get t)
 | .cell a t=>if known P t then qiJ P s noB t (s.get a) else none
def qv8 (P:Program) (s:St):List ResultVar→Option AV
 |[]=>some .unit
 |r::l=>match qyM P s r,qv8 P s l with
  |some a,some b=>if a.solid then some ⟨.pair a.sh b.sh,(a.v,b.v)⟩ else none
  |_,_=>none
def qyn (P:Program) (s:St) (rs:List ResultVar):Option AV :=
 match rs with
 |[r]=>qyM P s r
 |rs=>match qv8 P s rs with
  |some a=>some ⟨.tup a.sh,a.v⟩
  |none=>none
def evF (C:Ctx) (drawn:(FuncId→Bool)→Array Oper→Bool) (unroll:Nat):Nat→qcM
 |0,_,_,_,_,_=>none
 |d+1,f,args,h,nx,K=>match C.bodies f with
  |some b=>b args h nx K
  |none=>match C.P.funcs[f]? with
  |some fn=>(match fn.body with
   |some c=>if args.length≤fn.ntmps then ev C (evF C drawn unroll d) drawn (fun _=>true) f fn.ntmps unroll c {ents:=enum 0 args,heap:=h,next:=nx} fun e s =>
     match e with
     | .ret | .normal=>(match qyn C.P s fn.results.toList with
      |some v=>K v s.heap s.next
      |none=>none)
     | .panic ch=>(match qyr ch with
      |some v=>K (qHr v) s.heap s.next
      |none=>none)
     |_=>none
    else none
   |none=>none)
  |none=>none
end Go.Av
end
