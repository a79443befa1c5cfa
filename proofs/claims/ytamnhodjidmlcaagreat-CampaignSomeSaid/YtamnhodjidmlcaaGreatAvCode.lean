/- The abstract walk of a function's code: its definition. -/
import Derived.Test.YtamnhodjidmlcaaGreatAvAll
namespace Go.Av
open Go
abbrev qbk:=List (Nat×AV)
abbrev R:=AV×qbk×Nat
abbrev qmz:=Exit→St→Option R
abbrev Plain:=List AV→Option (Bool×AV)
structure Loop where
 M:List Nat
 T:List Nat
 run:List AV→qbk→Nat→(Exit→List AV→qbk→Nat→Option R)→Option R
abbrev Body:=List AV→qbk→Nat→(AV→qbk→Nat→Option R)→Option R
structure Ctx where
 P:Program
 eqs:List TypeId
 plain:FuncId→Option Plain
 loops:FuncId→Nat→Option Loop
 bodies:FuncId→Option Body:=fun _=>none
 cuts:FuncId→Nat→Option Loop:=fun _ _=>none
 gets:FuncId→Option (Nat×TypeId):=fun _=>none
 owns:FuncId→Bool:=fun _=>false
def qLZ (v:Value):AV:=⟨.tup (.lit v),()⟩
def qvJ (a:AV):Option Value :=
 match a.sh with
 | .tup (.lit v)=>some v
 |_=>none
def qzT:List PanicEntry→Option Value
 |[⟨v,false,false⟩]=>some v
 |_=>none
def Sh.boxes:Sh→List Nat
 | .pair a b=>a.boxes++b.boxes
 | .box id _=>[id]
 | .boxi id _ _ _=>[id]
 | .win id _=>[id]
 | .elp id _ _=>[id]
 | .mp id=>[id]
 | .nbox id=>[id]
 | .wsl _ id _=>[id]
 | .wref id _=>[id]
 | .fn _ caps=>caps.boxes
 | .tup a=>a.boxes
 | .tyc _ a=>a.boxes
 |_=>[]
def Sh.rows:Sh→List Nat
 | .pair a b=>a.rows++b.rows
 | .osl id _=>[id]
 | .tsl _ id=>[id]
 | .wsl (some id) _ _=>[id]
 | .fn _ caps=>caps.rows
 | .tup a=>a.rows
 | .tyc _ a=>a.rows
 |_=>[]
def qee (l:List Nat):List Nat→List Nat
 |[]=>l
 |x::xs=>if l.contains x then qee l xs else qee (l++[x]) xs
def qxc (h:qbk):List Nat→List Nat
 |[]=>[]
 |id::l=>(match look id h with
  |some c=>c.sh.boxes
  |none=>[])++qxc h l
def qlz (h:qbk):List Nat→List Nat
 |[]=>[]
 |id::l=>(match look id h with
  |some c=>c.sh.rows
  |none=>[])++qlz h l
def qk4 (h:qbk) (id:Nat):Bool:=(look id h).isSome
def reach (h:qbk):Nat→List Nat→List Nat
 |0,l=>l
 |d+1,l=>reach h d (qee l ((qxc h l).filter (qk4 h)))
def qnN:List AV→List Nat
 |[]=>[]
 |a::l=>a.sh.boxes++qnN l
def allRows:List AV→List Nat
 |[]=>[]
 |a::l=>a.sh.rows++allRows l
def qbu (id:Nat):List Nat→Nat→Option Nat
 |[],_=>none
 |x::l,k=>if id==x then some k else qbu id l (k+1)
def qbH (N:Nat) (l:List Nat) (j:Nat):Option Nat :=
 match l[j]? with
 |some x=>some x
 |none=>some (N+j)
def qme (h:qbk) (ρ σ:Nat→Option Nat):List Nat→Nat→qbk
 |[],_=>[]
 |id::l,k=>(match look id h with
  |some c=>[(k,c.ren ρ σ)]
  |none=>[])++qme h ρ σ l (k+1)
def qdi (ts:List Nat) (j:Nat):Option Nat:=if ts.contains j then none else some j
def qjO (ρ σ:Nat→Option Nat) (h:qbk):qbk→qbk
 |[]=>h
 |(j,c)::l=>match σ j with
  |some id=>put id (c.ren ρ σ) (qjO ρ σ h l)
  |none=>qjO ρ σ h l
def qpY (N:Nat) (bs:List Nat) (h:qbk):qbk→Bool
 |[]=>true
 |(j,_)::l=>(match bs[j]? with
  |some _=>true
  |none=>(look (N+j) h).isNone)&&qpY N bs h l
def qxX:List Nat→Bool
 |[]=>true
 |x::l=>!l.contains x&&qxX l
def qg9 (_:Nat):Option Nat:=none
def qtF (own:Bool) (body:List AV→qbk→Nat→(AV→qbk→Nat→Option R)→Option R) (args:List AV) (s:St) (K:AV→St→Option R):Option R :=
 let bs:=reach s.heap 4 (qee [] ((qnN args).filter (qk4 s.heap)))
 let ts:=qee [] ((bif own then allRows args else[])++qlz s.heap bs)
 let ρ:=fun id=>qbu id ts 0
 let σ:=fun id=>qbu id bs 0
 if qxX bs&&bs.all (qk4 s.heap) then
  body (args.map (·.ren (bif own then ρ else qg9) σ)) (qme s.heap ρ σ bs 0) 64 fun v h nx =>
   if qpY s.next bs s.heap h then
    let ρ':=qbH s.next ts
    let σ':=qbH s.next bs
    K (v.ren ρ' σ') {ents:=qdT (·.ren (qdi ts) some) s.ents,heap:=qjO ρ' σ' (qdT (·.ren (qdi ts) some) s.heap) h,next:=s.next+nx}
   else none
 else none
def qcl:List Nat→List AV→List (Nat×AV)
 |t::M,a::l=>put t a (qcl M l)
 |_,_=>[]
def without (T:List Nat) (l0:List (Nat×AV)):List (Nat×AV)→List (Nat×AV)
 |[]=>[]
 |(j,_)::l=>if T.contains j then without T l0 l else match look j l0 with
  |some v=>(j,v)::without T l0 l
  |none=>without T l0 l
def qph (base:List (Nat×AV)):List Nat→List AV→List (Nat×AV)
 |t::M,a::l=>put t a (qph base M l)
 |_,_=>base
def qh2 (T:List Nat):List (Nat×AV)→Bool
 |[]=>true
 |(j,_)::l=>T.contains j&&qh2 T l
def inLoop (run:List AV→qbk→Nat→(Exit→List AV→qbk→Nat→Option R)→Option R) (vals:List AV) (heap:qbk) (next:Nat)
  (K:Exit→List AV→qbk→Nat→(Nat→Option Nat)→Option R):Option R :=
 let bs:=reach heap 4 (qee [] ((qnN vals).filter (qk4 heap)))
 let ts:=qee [] (allRows vals++qlz heap bs)
 let ρ:=fun id=>qbu id ts 0
 let σ:=fun id=>qbu id bs 0
 if qxX bs&&bs.all (qk4 heap) then
  run (vals.map (·.ren ρ σ)) (qme heap ρ σ bs 0) 64 fun e vals' h nx =>
   if qpY next bs heap h then
    let ρ':=qbH next ts
    let σ':=qbH next bs
    K e (vals'.map (·.ren ρ' σ')) (qjO ρ' σ' (qdT (·.ren (qdi ts) some) heap) h) (next+nx) (qdi ts)
   else none
 else none
def qiY:Code→Option Nat
 | .region id _ _=>some id
 | .seq a b=>match qiY a with
  |some r=>some r
  |none=>qiY b
 | .cond _ a b=>match qiY a with
  |some r=>some r
  |none=>qiY b
 | .block _ c=>qiY c
 | .loop c=>qiY c
 | .scope c=>qiY c
 |_=>none
def qbG (n:Nat) (o:Oper):Bool :=
 match o.dst with
 |some d=>Nat.blt d n
 |none=>true
def unpack:Sh→(d:Nat)→Bool
 | .ty .unit,_=>true
 |_,0=>false
 | .pair a b,d+1=>!a.agg&&unpack b d
 | .ty (.pair a b),d+1=>!a.agg&&unpack (.ty b) d
 |_,_=>false
def parts:Nat→AV→List AV
 |0,_=>[]
 |d+1,a=>match a.split with
  |some (p,q)=>p::parts d q
  |none=>[]
def qiW (s:St) (c:Call):Option (FuncId×List AV) :=
 match c.callee with
 | .value f=>match qP s f with
  |⟨.fn g caps,x⟩=>if unpack caps 12 then some (g,c.args.toList.map (qP s)++parts 12 ⟨caps,x⟩) else none
  |⟨.ty .func,some g⟩=>some (g,c.args.toList.map (qP s))
  |_=>none
 |_=>none
def quh (s:St) (f:Nat→Bool) (a:AV):AV :=
 match a with
 |⟨.win id e,y⟩=>(match qbR s f id with
  |some ⟨.rowc e',xs⟩=>(match Ty.dec e' e with
   |isTrue h=>if 0<e.size then⟨.ty (.sl e),shown (h▸xs:List e.den) y⟩ else⟨.win id e,y⟩
   |isFalse _=>⟨.win id e,y⟩)
  |_=>⟨.win id e,y⟩)
 |a=>a
def qyh:AV→Option Nat
 |⟨.win id _,_⟩=>some id
 |_=>none
def qx0:Option AV→Bool
 |some ⟨.rowc .bool,_⟩=>true
 |_=>false
def qMQ:Sh→Bool
 | .ty (.sl (.int _)) | .ty (.int _) | .ty .bool | .osl _ (.int _)=>true
 |_=>false
def qm4 (s:St) (f:Nat→Bool) (a:AV):Option (List Nat×AV) :=
 match a with
 |⟨.box id 0,_⟩=>(match qbR s f id with
  |some ⟨.pair (.ty t) (.pair (.wsl _ rid e) (.ty .unit)),x⟩=>(match qbR s f rid with
   |some ⟨.rowc e',xs⟩=>(match Ty.dec e' e with
    |isTrue h=>if 0<e.size then some ([id,rid],⟨.ref (.pair t (.pair (.sl (.sl e)) .unit)) 0,(x.1,rowsOf (h▸xs:List e.den) x.2.1,())⟩) else none
    |isFalse _=>none)
   |_=>none)
  |_=>none)
 |_=>none
def qrl (s:St) (f:Nat→Bool) (a:AV):AV :=
 match qm4 s f a with
 |some p=>p.2
 |none=>a.ren qg9 qg9
def qt6:Sh→Bool
 | .ty (.int _) | .ty .bool | .ty .str=>true
 |_=>false
def qvN:AV:=⟨.tup (.tup (.ty .unit)),()⟩
def qtj (s:St) (f:Nat→Bool) (a:AV):Option (List Nat×AV×AV) :=
 match a with
 |⟨.box id 0,_⟩=>(match qbR s f id with
  |some ⟨.pair (.ty (.sl e)) (.pair (.ty (.int .i64)) (.pair (.mp m) _)),x⟩=>(match qbR s f m with
   |some ⟨.mapc,en⟩=>some ([id,m],⟨.ty (.sl e),x.1⟩,⟨.mapc,en⟩)
   |_=>none)
  |_=>none)
 |_=>none
def qrc (s:St) (f:Nat→Bool) (args:List AV):Option (List AV) :=
 match args with
 |a::rest=>(match qtj s f a with
  |some p=>some (qvN::p.2.1::p.2.2::rest.map (·.ren qg9 qg9))
  |none=>none)
 |[]=>none
def qro (s:St) (f:Nat→Bool) (ps:Plain) (args:List AV):Option (Bool×AV) :=
 match qrc s f args with
 |some l=>(match ps l with
  |some v=>if qt6 v.2.sh then some v else none
  |none=>none)
 |none =>
 bif args.any (fun a=>(qm4 s f a).isSome) then
  match ps (args.map (qrl s f)) with
   |some v=>if qt6 v.2.sh then some v else none
   |none=>none
 else match args.filterMap qyh with
 |[]=>ps (args.map (·.ren qg9 qg9))
 |i::l=>bif (i::l).all fun i=>qx0 (qbR s f i) then
   match ps (args.map fun a=>(quh s f a).ren qg9 qg9) with
   |some v=>if qMQ v.2.sh then some v else none
   |none=>none
  else none
def qxr (P:Program) (s:St) (f:Nat→Bool) (p:Nat×TypeId) (args:List AV):Option (Bool×AV) :=
 match args with
 |[⟨.box id 0,_⟩]=>bif known P p.2 then(match qkT P s f p.2 (.box id p.1) with
  |some v=>bif qt6 v.sh then some (true,v) else none
  |none=>none) else none
 |_=>none
def qc6 (C:Ctx) (s:St) (no:Lim) (id:Nat) (o:Oper):Res Eff :=
 match o.op with
 | .call c=>match qiW s c with
  |some (g,args)=>(match C.plain g with
   |some ps=>(match C.gets g with
    |some p=>(qxr C.P s (no.rd id) p args).map fun v=>(v.1,.val v.2)
    |none=>(qro s (no.rd id) ps args).map fun v=>(v.1,.val (v.2.ren (qbH id []) (qbH id []))))
   |none=>none)
  |none=>opE C.P C.eqs s no id o
 |_=>opE C.P C.eqs s no id o
def walked (C:Ctx) (s:St) (o:Oper):Option (FuncId×List AV) :=
 match o.op with
 | .call c=>match qiW s c with
  |some (g,args)=>(match C.plain g with
   |some _=>none
   |none=>some (g,args))
  |none=>none
 |_=>none
abbrev qc8:=FuncId→List AV→qbk→Nat→(AV→qbk→Nat→Option R)→Option R
def qhs (C:Ctx) (call:qc8) (n:Nat) (no:Lim) (id:Nat) (o:Oper) (s:St) (K:St→Option R):Option R :=
 bif qbG n o then
  match walked C s o with
  |some (g,args)=>qtF (C.owns g) (call g) args s fun v s'=>match qvJ v with
   |some _=>none
   |none=>K (s'.setO o.dst v)
  |none=>match qc6 C s no id o with
   |some (c,e)=>bif c then K (s.apply o.dst e) else none
   |none=>none
 else none
def Ty.cellsV:(t:Ty)→t.den→Option (List Value)
 | .unit,_=>some []
 | .pair a b,x=>match Ty.cellsV a x.1,Ty.cellsV b x.2 with
  |some c,some d=>some (c++d)
  |_,_=>none
 | .int k,n=>some [.int k n]
 | .bool,b=>some [.bool b]
 | .str,s=>some [.string ⟨⟨s⟩⟩]
 |_,_=>none
def AV.value (a:AV):Option Value :=
 match a with
 |⟨.ty t,x⟩=>(match t.cellsV x with
  |some cs=>some (mkV t.agg cs)
  |none=>none)
 |_=>none
def isIface:Value→Bool
 | .iface _ _=>true
 |_=>false
def qej (b:List UInt8):List Int:=b.map fun b=>(b.toNat:Int)
def qv9 (a:AV):Option (List Int) :=
 match a with
 |⟨.ty .str,b⟩=>some (qej b)
 |a=>qya a
def bytesOf (xs:List Int):List UInt8:=xs.map toByte
def opY (P:Program) (s:St) (id:Nat) (o:Oper):Res Eff :=
 match o.op with
 | .makeInterface t x=>match P.underlying t with
  |some (.interface _)=>none
  |some _=>(qP s x).value.map fun v=>(true,.val (.lit (.iface t v)))
  |none=>none
 | .makeSlice t (.tmp i) (.tmp j)=>match P.underlying t,qiN (qP s (.tmp i)) with
  |some (.slice e),some c=>(match qjV P qgZ e,quY P e,P.info? e with
   |some τ,some z,some inf=>(match z.as τ with
    |some z=>if i=j∧P.cellsOf e=τ.size∧0<τ.size∧(look id s.heap).isNone=true then
      some (qmb c inf.bytes,.new id ⟨.rowc τ,zeros c z⟩ ⟨.win id τ,(0,qgf 0 c)⟩) else none
    |none=>none)
   |_,_,_=>none)
  |_,_=>none
 | .makeMap _ none=>if(look id s.heap).isNone=true then some (true,.new id ⟨.mapc,[]⟩ ⟨.mp id,()⟩) else none
 | .convert t u x=>match P.underlying t,P.underlying u,qP s x with
  |some (.slice e),some .string,⟨.win b (.int .u8),y⟩=>(match look b s.heap with
   |some ⟨.rowc (.int .u8),xs⟩=>if qx9 P e=true then yes (.val (.str (bytesOf (shown (xs:List Int) y)))) else none
   |_=>none)
  |_,_,_=>none
 | .call c=>match c.callee with
  | .builtin .copy=>(match c.argTypes.toList,c.args.toList with
   |[t,_],[x,y]=>(match P.underlying t,qP s x with
    |some (.slice el),⟨.win b (.int .u8),v⟩=>(match look b s.heap,qv9 (qP s y),P.info? el with
     |some ⟨.rowc (.int .u8),xs⟩,some ys,some i=>if i.size=1 then yes (.put b ⟨.rowc (.int .u8),qe8 (xs:List Int) v.1 ys v.2⟩) else none
     |_,_,_=>none)
    |_,_=>none)
   |_,_=>none)
  |_=>none
 |_=>none
def opZ (P:Program) (s:St) (o:Oper):Option St :=
 match o.op with
 | .slice t x none none none=>match P.underlying t,qP s x with
  |some (.array n el),⟨.box id 0,_⟩=>(match look id s.heap with
   |some ⟨.ty (.arr m e),xs⟩=>if m=n∧P.cellsOf el=e.size∧known P el=true∧0<e.size∧0<n then
     some {s.setO o.dst ⟨.win id e,(0,n)⟩ with heap:=Av.put id ⟨.rowc e,xs⟩ s.heap} else none
   |_=>none)
  |_,_=>none
 |_=>none
def panics (s:St) (o:Oper):Option (Option Value) :=
 match o.op with
 | .panic x=>(match qP s x with
  |⟨.lit v,_⟩=>if isIface v then some (some v) else some none
  |_=>some none)
 |_=>none
def qwd (C:Ctx) (call:qc8) (n:Nat) (no:Lim) (id:Nat) (o:Oper) (s:St) (K:St→Option R) (Kp:Value→St→Option R):Option R :=
 bif qbG n o then
  match panics s o with
  |some (some v)=>Kp v s
  |some none=>none
  |none=>match walked C s o with
   |some (g,args)=>qtF (C.owns g) (call g) args s fun v s'=>match qvJ v with
    |some u=>Kp u s'
    |none=>K (s'.setO o.dst v)
   |none=>match opZ C.P s o with
    |some s'=>K s'
    |none=>match opY C.P s id o with
     |some (c,e)=>bif c then K (s.apply o.dst e) else none
     |none=>match qc6 C s no id o with
      |some (c,e)=>bif c then K (s.apply o.dst e) else none
      |none=>none
 else none
def qg6 (ops:Array Oper) (j:Nat):Option Nat:=(ops[j]?).bind (·.dst)
def qcQ (C:Ctx) (call:qc8) (n:Nat) (no:Lim) (ops:Array Oper):List Oper→(id:Nat)→St→(St→Option R)→Option R
 |[],_,s,K=>K s
 |o::l,id,s,K=>match o.guard with
  |none=>qhs C call n no id o s fun s=>qcQ C call n no ops l (id+16) s K
  |some (j,want)=>match qg6 ops j with
   |some d=>(match s.get d with
    |⟨.ty .bool,b⟩=>bif b then
      (bif want then qhs C call n no id o (s.set d (.bool true)) fun s=>qcQ C call n no ops l (id+16) s K
       else bif qbG n o then qcQ C call n no ops l (id+16) ((s.set d (.bool true)).setO o.dst .undef) K else none)
     else(bif want then bif qbG n o then qcQ C call n no ops l (id+16) ((s.set d (.bool false)).setO o.dst .undef) K else none
       else qhs C call n no id o (s.set d (.bool false)) fun s=>qcQ C call n no ops l (id+16) s K)
    |⟨.tup (.ty .unit),_⟩=>bif qbG n o then qcQ C call n no ops l (id+16) (s.setO o.dst .undef) K else none
    |_=>none)
   |none=>none
def qtB (C:Ctx) (call:qc8) (n:Nat) (no:Lim) (ops:Array Oper):List Oper→(id:Nat)→St→(St→Option R)→(Value→St→Option R)→Option R
 |[],_,s,K,_=>K s
 |o::l,id,s,K,Kp=>match o.guard with
  |none=>qwd C call n no id o s (fun s=>qtB C call n no ops l (id+16) s K Kp) Kp
  |some (j,want)=>match qg6 ops j with
   |some d=>(match s.get d with
    |⟨.ty .bool,b⟩=>bif b then
      (bif want then qwd C call n no id o (s.set d (.bool true)) (fun s=>qtB C call n no ops l (id+16) s K Kp) Kp
       else bif qbG n o then qtB C call n no ops l (id+16) ((s.set d (.bool true)).setO o.dst .undef) K Kp else none)
     else(bif want then bif qbG n o then qtB C call n no ops l (id+16) ((s.set d (.bool false)).setO o.dst .undef) K Kp else none
       else qwd C call n no id o (s.set d (.bool false)) (fun s=>qtB C call n no ops l (id+16) s K Kp) Kp)
    |⟨.tup (.ty .unit),_⟩=>bif qbG n o then qtB C call n no ops l (id+16) (s.setO o.dst .undef) K Kp else none
    |_=>none)
   |none=>none
def iter (f:St→qmz→Option R):Nat→St→qmz→Option R
 |0,_,_=>none
 |m+1,s,K=>f s fun e s'=>match e with
  | .normal=>iter f m s' K
  |e=>K e s'
def qOQ:Lim:=⟨fun _ _=>false,fun _ _=>true⟩
def noB (_:Nat):Bool:=false
def makes (base:Nat):List Oper→Nat→List Nat
 |[],_=>[]
 |o::l,id=>match o.op with
  | .alloc _ | .box _ _=>id::makes base l (id+16)
  |_=>makes base l (id+16)
def edges (o:Oper):List Nat:=o.after.toList.filterMap fun e=>if Region.binds .any e then some e.on else none
def qtp (acc:List Nat):List Nat→Nat
 |[]=>0
 |e::l=>((1 <<< e) |||acc.getD e 0) |||qtp acc l
def qqq:List Oper→List Nat→List Nat
 |[],acc=>acc
 |o::l,acc=>qqq l (acc++[qtp acc (edges o)])
def qBW (t:Nat):List Oper→Option Oper
 |[]=>none
 |o::l=>match o.dst with
  |some d=>if d==t then some o else qBW t l
  |none=>qBW t l
def qPt (s:St) (ops:List Oper):Nat→Nat→Option Nat
 |0,_=>none
 |d+1,t=>match qBW t ops with
  |some o=>(match o.op with
   | .fieldAddr _ (.tmp x) _ | .indexAddr _ (.tmp x) _ | .nilCheck (.tmp x) | .move (.tmp x) | .assign (.tmp x)=>qPt s ops d x
   |_=>none)
  |none=>(match s.get t with
   |⟨.box id _,_⟩=>some id
   |⟨.boxi id _ _ _,_⟩=>some id
   |⟨.win id _,_⟩=>some id
   |⟨.elp id _ _,_⟩=>some id
   |_=>none)
def qtH (s:St) (ops:List Oper) (o:Oper):Option (Option Nat) :=
 match o.op with
 | .store _ (.tmp t) _=>some (qPt s ops 8 t)
 | .store _ _ _=>some none
 |_=>none
def qK6 (b:Nat):Option Nat→Bool
 |some c=>c==b
 |none=>true
def unordered (anc:List Nat) (i k:Nat):Bool:=bif Nat.blt i k then !(anc.getD k 0).testBit i else !(anc.getD i 0).testBit k
def clash (anc:List Nat) (i b:Nat):Nat→List (Option (Option Nat))→Bool
 |_,[]=>false
 |k,none::l=>clash anc i b (k+1) l
 |k,some w::l=>(unordered anc i k&&qK6 b w)||clash anc i b (k+1) l
def qyf (s:St) (base:Nat) (ops:Array Oper):Lim where
 rd:=fun id b=>(makes base ops.toList base).contains b||clash (qqq ops.toList []) ((id-base) / 16) b 0 (ops.toList.map (qtH s ops.toList))
 wr:=fun id b=>match (ops.toList.map (qtH s ops.toList)).getD ((id-base) / 16) none with
  |some w=>qK6 b w
  |none=>true
inductive Tree where
 |leaf (s:St)
 |ite (b:Bool) (t e:Tree)
 |fail
def Tree.fold (K:St→Option R):Tree→Option R
 | .leaf s=>K s
 | .ite b t e=>bif b then t.fold K else e.fold K
 | .fail=>none
def Tree.bindO (f:St→Option Tree):Tree→Option Tree
 | .leaf s=>f s
 | .ite b t e=>match t.bindO f with
  |some t=>(match e.bindO f with
   |some e=>some (.ite b t e)
   |none=>none)
  |none=>none
 | .fail=>some .fail
def AV.known (a:AV):Bool :=
 match a.sh with
 | .top=>false
 | .tup (.ty .unit)=>false
 |_=>true
def Sh.merge (b:Bool):(s:Sh)→s.den→(t:Sh)→t.den→Option AV
 | .osl i e,x,.osl j e',y=>match Ty.dec e e' with
  |isTrue h=>if i=j then some ⟨.osl j e',bif b then h▸x else y⟩ else some ⟨.ty (.sl e'),bif b then h▸x else y⟩
  |isFalse _=>none
 | .box i o,_,.box j o',_=>if i=j∧o=o' then some (.box j o') else none
 | .ref τ o,x,.ref τ' o',y=>match Ty.dec τ τ' with
  |isTrue h=>if o=o' then some ⟨.ref τ' o',bif b then h▸x else y⟩ else none
  |isFalse _=>none
 |s,x,.ty τ,y=>match s.as x τ with
  |some x'=>some ⟨.ty τ,bif b then x' else y⟩
  |none=>none
 | .ty τ,x,t,y=>match t.as y τ with
  |some y'=>some ⟨.ty τ,bif b then x else y'⟩
  |none=>none
 | .pair p q,x,.pair p' q',y=>match Sh.merge b p x.1 p' y.1,Sh.merge b q x.2 q' y.2 with
  |some u,some v=>some (AV.qmO u v)
  |_,_=>none
 |_,_,_,_=>none
def AV.merge (b:Bool) (x y:AV):Option AV :=
 if x.known&&y.known then Sh.merge b x.sh x.v y.sh y.v else some .top
def qzE (b:Bool) (s1 s2:St):List Nat→List (Nat×AV)→Option (List (Nat×AV))
 |[],e=>some e
 |t::W,e=>match AV.merge b (s1.get t) (s2.get t) with
  |some v=>qzE b s1 s2 W (put t v e)
  |none=>none
def qKv (W:List Nat) (s:St) (b:Bool) (s1 s2:St):Option St :=
 (qzE b s1 s2 W s.ents).map fun e=>{s with ents:=e,next:=max s1.next s2.next}
def qOw (b:Bool):Option Bool→Option Bool
 |none=>some b
 |some c=>some (b&&c)
def qSl (b:Bool):Option Bool→Option Bool→Option Bool
 |none,none=>none
 |none,some d=>some (bif b then true else d)
 |some c,none=>some (bif b then c else true)
 |some c,some d=>some (bif b then c else d)
def Tree.merge (W:List Nat) (s:St):Tree→Option (Option Bool×St)
 | .leaf s1=>some (none,s1)
 | .fail=>none
 | .ite b t .fail=>(t.merge W s).map fun p=>(qOw b p.1,p.2)
 | .ite b .fail e=>(e.merge W s).map fun p=>(qOw (!b) p.1,p.2)
 | .ite b t e=>match t.merge W s with
  |some p=>(match e.merge W s with
   |some q=>(qKv W s b p.2 q.2).map fun s'=>(qSl b p.1 q.1,s')
   |none=>none)
  |none=>none
def Tree.join (W:List Nat) (s:St) (t:Tree):Tree :=
 match t.merge W s with
 |some (none,s')=>.leaf s'
 |some (some c,s')=>.ite c (.leaf s') .fail
 |none=>t
def sure (s:St) (o:Oper):Bool :=
 match o.op with
 | .move _ | .assign _ | .pick .. | .box .. | .build .. | .buildSlice .. | .load .. | .nilCheck _ | .unOp .. | .convert .. | .makeFunc .. | .fieldAddr .. | .field .. | .extract ..=>true
 | .binOp op _ x y _=>(match op with
  | .sub | .mul | .and | .or | .xor | .andNot | .eql | .neq | .lss | .leq | .gtr | .geq=>true
  | .add=>(match qP s x with
   |⟨.ty (.int _),_⟩=>true
   |_=>false)
  | .shl | .shr=>(match y with
   | .const (.int _ n)=>decide (0≤n)
   |_=>false)
  | .quo | .rem=>(match y with
   | .const (.int _ n)=>decide (n≠0)
   |_=>false))
 | .call c=>(match c.callee with
  | .builtin .len | .builtin .min | .builtin .max=>true
  |_=>false)
 |_=>false
def qo9 (C:Ctx) (n:Nat) (no:Lim) (id:Nat) (o:Oper) (s:St):Option Tree :=
 bif qbG n o then
  match walked C s o with
  |some _=>none
  |none=>match qc6 C s no id o with
   |some (c,.val a)=>some (bif sure s o then .leaf (s.setO o.dst a) else .ite c (.leaf (s.setO o.dst a)) .fail)
   |_=>none
 else none
def qqa (d:Option Nat) (kn:List (Nat×Bool)):List (Nat×Bool) :=
 match d with
 |some d=>kn.filter fun p=>!(p.1==d)
 |none=>kn
def qyI (kn:List (Nat×Bool)):Operand→Option Bool
 | .const (.bool b)=>some b
 | .tmp t=>(kn.find? fun p=>p.1==t).map (·.2)
 |_=>none
def qHg (kn:List (Nat×Bool)) (o:Oper):Option Bool :=
 match o.op with
 | .move (.tmp t)=>qyI kn (.tmp t)
 | .assign (.tmp t)=>qyI kn (.tmp t)
 | .pick c a b=>match qyI kn c with
  |some true=>qyI kn a
  |some false=>qyI kn b
  |none=>none
 |_=>none
def learn (o:Oper) (kn:List (Nat×Bool)):List (Nat×Bool) :=
 match o.dst,qHg kn o with
 |some d,some b=>(d,b)::qqa (some d) kn
 |d,_=>qqa d kn
def qeB (C:Ctx) (n:Nat) (no:Lim) (ops:Array Oper):List Oper→(id:Nat)→(kn:List (Nat×Bool))→St→Option Tree
 |[],_,_,s=>some (.leaf s)
 |o::l,id,kn,s=>match o.guard with
  |none=>(qo9 C n no id o s).bind fun t=>t.bindO (qeB C n no ops l (id+16) (learn o kn))
  |some (j,want)=>match qg6 ops j with
   |some d=>(match s.get d with
    |⟨.ty .bool,b⟩ =>
     let on:=fun c=>bif c==want then(qo9 C n no id o (s.set d (.bool c))).bind fun t=>t.bindO (qeB C n no ops l (id+16) (learn o ((d,c)::kn)))
      else bif qbG n o then qeB C n no ops l (id+16) (qqa o.dst ((d,c)::kn)) ((s.set d (.bool c)).setO o.dst .undef) else none
     (match kn.find? (fun p=>p.1==d) with
     |some (_,c)=>on c
     |none=>match on true with
      |some t=>(match on false with
       |some e=>some (.ite b t e)
       |none=>none)
      |none=>none)
    |⟨.tup (.ty .unit),_⟩=>bif qbG n o then qeB C n no ops l (id+16) (qqa o.dst kn) (s.setO o.dst .undef) else none
    |_=>none)
   |none=>none
def qRN:Operand→Option Nat
 | .tmp t=>some t
 |_=>none
def isFirst (o:Oper):Bool :=
 match o.guard with
 |none=>(match o.op with
  | .move _ | .assign _ | .load .. | .fieldAddr ..=>true
  |_=>false)
 |some _=>false
def qy7:List Oper→List Bool→List Bool
 |[],acc=>acc
 |o::l,acc=>qy7 l (acc++[isFirst o&&(edges o).all fun e=>acc.getD e false])
def idxOf (want:Bool):List Bool→Nat→List Nat
 |[],_=>[]
 |b::l,k=>bif b==want then k::idxOf want l (k+1) else idxOf want l (k+1)
def qx7 (ops:Array Oper):List Nat→Array Bool→Bool
 |[],_=>true
 |i::l,listed=>Region.free .any ops listed i&&((Region.ready .any ops listed).contains i&&qx7 ops l (listed.setIfInBounds i true))
def quU (ops:Array Oper):List Nat→Array Bool→Bool
 |[],listed=>(Region.ready .any ops listed).isEmpty
 |i::l,listed=>(Region.ready .any ops listed==[i])&&quU ops l (listed.setIfInBounds i true)
def qLR (F:List Nat) (l:Array Bool):Array Bool:=F.foldl (fun l i=>l.setIfInBounds i true) l
def qwi (ops:Array Oper):List Nat:=idxOf true (qy7 ops.toList []) 0
def qpl (ops:Array Oper):List Nat:=idxOf false (qy7 ops.toList []) 0
def qMz (ops:Array Oper):Bool :=
 Region.noSelect ops&&(Nat.beq ((qwi ops).length+(qpl ops).length) ops.size &&
  (qx7 ops (qwi ops) (Array.replicate ops.size false)&&quU ops (qpl ops) (qLR (qwi ops) (Array.replicate ops.size false))))
def qCJ (C:Ctx) (s:St) (o:Oper):Option (AV×List Nat) :=
 match o.op with
 | .move x=>some (qP s x,[])
 | .assign x=>some (qP s x,[])
 | .load t x=>(match qP s x with
  |⟨.box id off,_⟩=>bif known C.P t then(match qkT C.P s noB t (.box id off) with
   |some v=>some (v,[id])
   |none=>none) else none
  |_=>none)
 | .fieldAddr t x f=>(match qu9 C.P t f with
  |some fl=>if C.P.cellsOf fl.type=0∨!known C.P fl.type then none else(match qP s x with
   |⟨.box id off,_⟩=>some (.box id (off+fl.offset),[])
   |_=>none)
  |none=>none)
 |_=>none
def qnS (C:Ctx) (n:Nat) (ops:Array Oper):List Nat→St→List Nat→Option (St×List Nat)
 |[],s,lb=>some (s,lb)
 |i::l,s,lb=>match ops[i]? with
  |some o=>bif isFirst o&&qbG n o then(match qCJ C s o with
   |some (v,b)=>qnS C n ops l (s.setO o.dst v) (lb++b)
   |none=>none) else none
  |none=>none
def qLF (C:Ctx) (call:qc8) (n:Nat) (ops:Array Oper):List Nat→(id:Nat)→St→(St→Option R)→(Value→St→Option R)→Option R
 |[],_,s,K,_=>K s
 |i::l,id,s,K,Kp=>match ops[i]? with
  |some o=>bif o.guard.isNone then qwd C call n qOQ id o s (fun s=>qLF C call n ops l (id+16) s K Kp) Kp else none
  |none=>none
def qvH (ops:Array Oper):List Nat→List Nat
 |[]=>[]
 |i::l=>(match ops[i]? with
  |some o=>o.op.operands.toList.filterMap qRN++o.dst.toList
  |none=>[])++qvH ops l
def qQT (lb:List Nat) (vals:List AV) (h:qbk):Bool :=
 lb.all fun id=>!(reach h 4 (qee [] ((qnN vals).filter (qk4 h)))).contains id
def qtR (ops:Array Oper):List Nat:=ops.toList.filterMap (·.dst)
def qMj (C:Ctx) (call:qc8) (n:Nat) (ops:Array Oper) (M T:List Nat):List AV→qbk→Nat→(Exit→List AV→qbk→Nat→Option R)→Option R:=fun vals heap nx Ke =>
 qLF C call n ops (qpl ops) nx {ents:=qcl M vals,heap:=heap,next:=nx+16*ops.size}
  (fun s=>if qh2 (M++T) s.ents then Ke .normal (M.map s.get) s.heap s.next else none)
  (fun v s=>if qh2 (M++T) s.ents then Ke (.panic [⟨v,false,false⟩]) (M.map s.get) s.heap s.next else none)
def qMb (ops:Array Oper):Bool:=ops.toList.any fun o=>match o.op with
 | .makeSlice _ (.tmp _) _=>true
 |_=>false
def qK3 (s1:St) (M T:List Nat) (K:qmz):Exit→List AV→qbk→Nat→(Nat→Option Nat)→Option R:=fun e vals h nx ρ =>
 match e with
 | .normal=>K .normal {ents:=qph (qdT (·.ren ρ some) (without (M++T) s1.ents s1.ents)) M vals,heap:=h,next:=nx}
 | .panic ch=>K (.panic ch) {ents:=qdT (·.ren ρ some) (without (M++T) s1.ents s1.ents),heap:=h,next:=nx}
 |_=>none
def qLY (C:Ctx) (call:qc8) (tset:Nat→Bool) (n:Nat) (ops:Array Oper) (s:St) (K:qmz):Option R :=
 if qMz ops&&(qvH ops (qpl ops)++qtR ops).all tset then
  match qnS C n ops (qwi ops) s [] with
  |some (s1,lb) =>
   if qQT lb ((qvH ops (qpl ops)).map s1.get) s1.heap then
    inLoop (qMj C call n ops (qvH ops (qpl ops)) (qtR ops)) ((qvH ops (qpl ops)).map s1.get) s1.heap s1.next (qK3 s1 (qvH ops (qpl ops)) (qtR ops) K)
   else none
  |none=>none
 else none
def qe7:Code→List Nat
 | .region _ ops _=>qtR ops
 | .seq a b=>qe7 a++qe7 b
 | .cond _ a b=>qe7 a++qe7 b
 |_=>[]
def qnz (C:Ctx) (drawn:(FuncId→Bool)→Array Oper→Bool) (n:Nat):Code→St→Option Tree
 | .skip,s=>some (.leaf s)
 | .region _ ops draw,s =>
  if draw then
   (if drawn (fun g=>(C.plain g).isSome) ops then(qeB C n (qyf s s.next ops) ops ops.toList s.next [] {s with next:=s.next+16*ops.size}).map (Tree.join (qtR ops) s) else none)
  else(qeB C n qOQ ops ops.toList s.next [] {s with next:=s.next+16*ops.size}).map (Tree.join (qtR ops) s)
 | .seq a b,s=>(qnz C drawn n a s).bind fun t=>t.bindO (qnz C drawn n b)
 | .cond c x y,s=>match qP s c with
  |⟨.ty .bool,b⟩=>(match qnz C drawn n x s with
   |some t=>(match qnz C drawn n y s with
    |some e=>some (Tree.join (qe7 x++qe7 y) s (.ite b t e))
    |none=>none)
   |none=>none)
  |_=>none
 |_,_=>none
def qnZ:Code→Nat→Bool
 | .seq a b,l=>qnZ a l||qnZ b l
 | .label l',l=>l'==l
 |_,_=>false
def qGT (f:Option Nat→St→qmz→Option R) (has:Nat→Bool):Nat→Option Nat→St→qmz→Option R
 |0,_,_,_=>none
 |m+1,j,s,K=>f j s fun e s'=>match e with
  | .goto l=>bif has l then qGT f has m (some l) s' K else K (.goto l) s'
  |e=>K e s'
def qwT:Code→Option Nat
 | .region r _ _=>some (2*r)
 | .seq (.region r _ _) _=>some (2*r+1)
 |_=>none
def evJ (C:Ctx) (call:qc8) (drawn:(FuncId→Bool)→Array Oper→Bool) (tset:Nat→Bool) (fid n unroll:Nat):Code→Option Nat→St→qmz→Option R
 | .skip,none,s,K=>K .normal s
 | .region id ops draw,none,s,K=>match qnz C drawn n (.region id ops draw) s with
  |some t=>t.fold (K .normal)
  |none=>if draw then
    if drawn (fun g=>(C.plain g).isSome) ops&&!qMb ops then qcQ C call n (qyf s s.next ops) ops ops.toList s.next {s with next:=s.next+16*ops.size} fun s=>K .normal s
    else qLY C call tset n ops {s with next:=s.next+16*ops.size} K
   else qtB C call n qOQ ops ops.toList s.next {s with next:=s.next+16*ops.size} (fun s=>K .normal s) (fun v s=>K (.panic [⟨v,false,false⟩]) s)
 | .seq a b,none,s,K=>match (qwT a).bind (C.cuts fid) with
  |some L=>if(L.M++L.T).all tset then inLoop L.run (L.M.map s.get) s.heap s.next fun e vals h nx ρ =>
    K e {ents:=qph (qdT (·.ren ρ some) (without (L.M++L.T) s.ents s.ents)) L.M vals,heap:=h,next:=nx} else none
  |none=>evJ C call drawn tset fid n unroll a none s fun e s'=>match e with
   | .normal=>evJ C call drawn tset fid n unroll b none s' K
   |e=>K e s'
 | .seq a b,some l,s,K=>bif qnZ a l then evJ C call drawn tset fid n unroll a (some l) s fun e s'=>match e with
   | .normal=>evJ C call drawn tset fid n unroll b none s' K
   |e=>K e s'
  else evJ C call drawn tset fid n unroll b (some l) s K
 | .cond c x y,none,s,K=>match qnz C drawn n (.cond c x y) s with
  |some t=>t.fold (K .normal)
  |none=>match qP s c with
   |⟨.ty .bool,b⟩=>bif b then evJ C call drawn tset fid n unroll x none s K else evJ C call drawn tset fid n unroll y none s K
   |_=>none
 | .block id c,none,s,K=>evJ C call drawn tset fid n unroll c none s fun e s'=>match e with
  | .exit j=>if j==id then K .normal s' else K (.exit j) s'
  |e=>K e s'
 | .loop c,none,s,K=>match (qiY c).bind (C.loops fid) with
  |some L=>if(L.M++L.T).all tset then inLoop L.run (L.M.map s.get) s.heap s.next fun e vals h nx ρ =>
    K e {ents:=qph (qdT (·.ren ρ some) (without (L.M++L.T) s.ents s.ents)) L.M vals,heap:=h,next:=nx} else none
  |none=>iter (evJ C call drawn tset fid n unroll c none) unroll s K
 | .scope c,none,s,K=>qGT (evJ C call drawn tset fid n unroll c) (qnZ c) unroll none s K
 | .exit id,none,s,K=>K (.exit id) s
 | .goto l,none,s,K=>K (.goto l) s
 | .label _,none,s,K=>K .normal s
 | .label l',some l,s,K=>bif l'==l then K .normal s else none
 | .ret,none,s,K=>K .ret s
 |_,_,_,_=>none
@[reducible] def ev (C:Ctx) (call:qc8) (drawn:(FuncId→Bool)→Array Oper→Bool) (tset:Nat→Bool) (fid n unroll:Nat) (c:Code) (s:St) (K:qmz):Option R :=
 evJ C call drawn tset fid n unroll c none s K
def enum:Nat→List AV→List (Nat×AV)
 |_,[]=>[]
 |k,a::l=>(k,a)::enum (k+1) l
def qzU (P:Program) (s:St):ResultVar→Option AV
 | .tmp t=>some (s.get t)
 | .cell a t=>if known P t then qkT P s noB t (s.get a) else none
def qx2 (P:Program) (s:St):List ResultVar→Option AV
 |[]=>some .unit
 |r::l=>match qzU P s r,qx2 P s l with
  |some a,some b=>if a.solid then some ⟨.pair a.sh b.sh,(a.v,b.v)⟩ else none
  |_,_=>none
def qzr (P:Program) (s:St) (rs:List ResultVar):Option AV :=
 match rs with
 |[r]=>qzU P s r
 |rs=>match qx2 P s rs with
  |some a=>some ⟨.tup a.sh,a.v⟩
  |none=>none
def evF (C:Ctx) (drawn:(FuncId→Bool)→Array Oper→Bool) (unroll:Nat):Nat→qc8
 |0,_,_,_,_,_=>none
 |d+1,f,args,h,nx,K=>match C.bodies f with
  |some b=>b args h nx K
  |none=>match C.P.funcs[f]? with
  |some fn=>(match fn.body with
   |some c=>if args.length≤fn.ntmps then ev C (evF C drawn unroll d) drawn (fun _=>true) f fn.ntmps unroll c {ents:=enum 0 args,heap:=h,next:=nx} fun e s =>
     match e with
     | .ret | .normal=>(match qzr C.P s fn.results.toList with
      |some v=>K v s.heap s.next
      |none=>none)
     | .panic ch=>(match qzT ch with
      |some v=>K (qLZ v) s.heap s.next
      |none=>none)
     |_=>none
    else none
   |none=>none)
  |none=>none
end Go.Av
