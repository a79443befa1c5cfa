/- The abstract walk of a function's code: its definition. -/
import Derived.Test.YtamnhodjidmlcaaGreatAvAll
namespace Go.Av
open Go
abbrev qbm:=List (Nat×AV)
abbrev R:=AV×qbm×Nat
abbrev ql6:=Exit→St→Option R
abbrev Plain:=List AV→Option (Bool×AV)
structure Loop where
 M:List Nat
 T:List Nat
 run:List AV→qbm→Nat→(Exit→List AV→qbm→Nat→Option R)→Option R
abbrev Body:=List AV→qbm→Nat→(AV→qbm→Nat→Option R)→Option R
structure Ctx where
 P:Program
 eqs:List TypeId
 plain:FuncId→Option Plain
 loops:FuncId→Nat→Option Loop
 bodies:FuncId→Option Body:=fun _=>none
 cuts:FuncId→Nat→Option Loop:=fun _ _=>none
 gets:FuncId→Option (Nat×TypeId):=fun _=>none
 owns:FuncId→Bool:=fun _=>false
def qLg (v:Value):AV:=⟨.tup (.lit v),()⟩
def qwz (a:AV):Option Value :=
 match a.sh with
 | .tup (.lit v)=>some v
 |_=>none
def qzA:List PanicEntry→Option Value
 |[⟨v,false,false⟩]=>some v
 |_=>none
def Sh.boxes:Sh→List Nat
 | .pair a b=>a.boxes++b.boxes
 | .box id _=>[id]
 | .boxi id _ _ _=>[id]
 | .win id _=>[id]
 | .elp id _ _=>[id]
 | .mp id=>[id]
 | .nbox id=>[id]
 | .wsl _ id _=>[id]
 | .wref id _=>[id]
 | .fn _ caps=>caps.boxes
 | .tup a=>a.boxes
 | .tyc _ a=>a.boxes
 |_=>[]
def Sh.rows:Sh→List Nat
 | .pair a b=>a.rows++b.rows
 | .osl id _=>[id]
 | .tsl _ id=>[id]
 | .wsl (some id) _ _=>[id]
 | .fn _ caps=>caps.rows
 | .tup a=>a.rows
 | .tyc _ a=>a.rows
 |_=>[]
def qej (l:List Nat):List Nat→List Nat
 |[]=>l
 |x::xs=>if l.contains x then qej l xs else qej (l++[x]) xs
def qxj (h:qbm):List Nat→List Nat
 |[]=>[]
 |id::l=>(match look id h with
  |some c=>c.sh.boxes
  |none=>[])++qxj h l
def qlm (h:qbm):List Nat→List Nat
 |[]=>[]
 |id::l=>(match look id h with
  |some c=>c.sh.rows
  |none=>[])++qlm h l
def qlh (h:qbm) (id:Nat):Bool:=(look id h).isSome
def reach (h:qbm):Nat→List Nat→List Nat
 |0,l=>l
 |d+1,l=>reach h d (qej l ((qxj h l).filter (qlh h)))
def qnR:List AV→List Nat
 |[]=>[]
 |a::l=>a.sh.boxes++qnR l
def allRows:List AV→List Nat
 |[]=>[]
 |a::l=>a.sh.rows++allRows l
def qbu (id:Nat):List Nat→Nat→Option Nat
 |[],_=>none
 |x::l,k=>if id==x then some k else qbu id l (k+1)
def qbI (N:Nat) (l:List Nat) (j:Nat):Option Nat :=
 match l[j]? with
 |some x=>some x
 |none=>some (N+j)
def ql5 (h:qbm) (ρ σ:Nat→Option Nat):List Nat→Nat→qbm
 |[],_=>[]
 |id::l,k=>(match look id h with
  |some c=>[(k,c.ren ρ σ)]
  |none=>[])++ql5 h ρ σ l (k+1)
def qdf (ts:List Nat) (j:Nat):Option Nat:=if ts.contains j then none else some j
def qjU (ρ σ:Nat→Option Nat) (h:qbm):qbm→qbm
 |[]=>h
 |(j,c)::l=>match σ j with
  |some id=>put id (c.ren ρ σ) (qjU ρ σ h l)
  |none=>qjU ρ σ h l
def qp0 (N:Nat) (bs:List Nat) (h:qbm):qbm→Bool
 |[]=>true
 |(j,_)::l=>(match bs[j]? with
  |some _=>true
  |none=>(look (N+j) h).isNone)&&qp0 N bs h l
def qx9:List Nat→Bool
 |[]=>true
 |x::l=>!l.contains x&&qx9 l
def qhc (_:Nat):Option Nat:=none
def qtC (own:Bool) (body:List AV→qbm→Nat→(AV→qbm→Nat→Option R)→Option R) (args:List AV) (s:St) (K:AV→St→Option R):Option R :=
 let bs:=reach s.heap 4 (qej [] ((qnR args).filter (qlh s.heap)))
 let ts:=qej [] ((bif own then allRows args else[])++qlm s.heap bs)
 let ρ:=fun id=>qbu id ts 0
 let σ:=fun id=>qbu id bs 0
 if qx9 bs&&bs.all (qlh s.heap) then
  body (args.map (·.ren (bif own then ρ else qhc) σ)) (ql5 s.heap ρ σ bs 0) 64 fun v h nx =>
   if qp0 s.next bs s.heap h then
    let ρ':=qbI s.next ts
    let σ':=qbI s.next bs
    K (v.ren ρ' σ') {ents:=qdW (·.ren (qdf ts) some) s.ents,heap:=qjU ρ' σ' (qdW (·.ren (qdf ts) some) s.heap) h,next:=s.next+nx}
   else none
 else none
def qck:List Nat→List AV→List (Nat×AV)
 |t::M,a::l=>put t a (qck M l)
 |_,_=>[]
def without (T:List Nat) (l0:List (Nat×AV)):List (Nat×AV)→List (Nat×AV)
 |[]=>[]
 |(j,_)::l=>if T.contains j then without T l0 l else match look j l0 with
  |some v=>(j,v)::without T l0 l
  |none=>without T l0 l
def qpM (base:List (Nat×AV)):List Nat→List AV→List (Nat×AV)
 |t::M,a::l=>put t a (qpM base M l)
 |_,_=>base
def qh2 (T:List Nat):List (Nat×AV)→Bool
 |[]=>true
 |(j,_)::l=>T.contains j&&qh2 T l
def inLoop (run:List AV→qbm→Nat→(Exit→List AV→qbm→Nat→Option R)→Option R) (vals:List AV) (heap:qbm) (next:Nat)
  (K:Exit→List AV→qbm→Nat→(Nat→Option Nat)→Option R):Option R :=
 let bs:=reach heap 4 (qej [] ((qnR vals).filter (qlh heap)))
 let ts:=qej [] (allRows vals++qlm heap bs)
 let ρ:=fun id=>qbu id ts 0
 let σ:=fun id=>qbu id bs 0
 if qx9 bs&&bs.all (qlh heap) then
  run (vals.map (·.ren ρ σ)) (ql5 heap ρ σ bs 0) 64 fun e vals' h nx =>
   if qp0 next bs heap h then
    let ρ':=qbI next ts
    let σ':=qbI next bs
    K e (vals'.map (·.ren ρ' σ')) (qjU ρ' σ' (qdW (·.ren (qdf ts) some) heap) h) (next+nx) (qdf ts)
   else none
 else none
def qiQ:Code→Option Nat
 | .region id _ _=>some id
 | .seq a b=>match qiQ a with
  |some r=>some r
  |none=>qiQ b
 | .cond _ a b=>match qiQ a with
  |some r=>some r
  |none=>qiQ b
 | .block _ c=>qiQ c
 | .loop c=>qiQ c
 | .scope c=>qiQ c
 |_=>none
def qbH (n:Nat) (o:Oper):Bool :=
 match o.dst with
 |some d=>Nat.blt d n
 |none=>true
def unpack:Sh→(d:Nat)→Bool
 | .ty .unit,_=>true
 |_,0=>false
 | .pair a b,d+1=>!a.agg&&unpack b d
 | .ty (.pair a b),d+1=>!a.agg&&unpack (.ty b) d
 |_,_=>false
def parts:Nat→AV→List AV
 |0,_=>[]
 |d+1,a=>match a.split with
  |some (p,q)=>p::parts d q
  |none=>[]
def qiS (s:St) (c:Call):Option (FuncId×List AV) :=
 match c.callee with
 | .value f=>match qN s f with
  |⟨.fn g caps,x⟩=>if unpack caps 12 then some (g,c.args.toList.map (qN s)++parts 12 ⟨caps,x⟩) else none
  |⟨.ty .func,some g⟩=>some (g,c.args.toList.map (qN s))
  |_=>none
 |_=>none
def quw (s:St) (f:Nat→Bool) (a:AV):AV :=
 match a with
 |⟨.win id e,y⟩=>(match qbR s f id with
  |some ⟨.rowc e',xs⟩=>(match Ty.dec e' e with
   |isTrue h=>if 0<e.size then⟨.ty (.sl e),shown (h▸xs:List e.den) y⟩ else⟨.win id e,y⟩
   |isFalse _=>⟨.win id e,y⟩)
  |_=>⟨.win id e,y⟩)
 |a=>a
def qyo:AV→Option Nat
 |⟨.win id _,_⟩=>some id
 |_=>none
def qx5:Option AV→Bool
 |some ⟨.rowc .bool,_⟩=>true
 |_=>false
def qNr:Sh→Bool
 | .ty (.sl (.int _)) | .ty (.int _) | .ty .bool | .osl _ (.int _)=>true
 |_=>false
def qm5 (s:St) (f:Nat→Bool) (a:AV):Option (List Nat×AV) :=
 match a with
 |⟨.box id 0,_⟩=>(match qbR s f id with
  |some ⟨.pair (.ty t) (.pair (.wsl _ rid e) (.ty .unit)),x⟩=>(match qbR s f rid with
   |some ⟨.rowc e',xs⟩=>(match Ty.dec e' e with
    |isTrue h=>if 0<e.size then some ([id,rid],⟨.ref (.pair t (.pair (.sl (.sl e)) .unit)) 0,(x.1,rowsOf (h▸xs:List e.den) x.2.1,())⟩) else none
    |isFalse _=>none)
   |_=>none)
  |_=>none)
 |_=>none
def qrK (s:St) (f:Nat→Bool) (a:AV):AV :=
 match qm5 s f a with
 |some p=>p.2
 |none=>a.ren qhc qhc
def qup:Sh→Bool
 | .ty (.int _) | .ty .bool | .ty .str=>true
 |_=>false
def qvY:AV:=⟨.tup (.tup (.ty .unit)),()⟩
def qtw (s:St) (f:Nat→Bool) (a:AV):Option (List Nat×AV×AV) :=
 match a with
 |⟨.box id 0,_⟩=>(match qbR s f id with
  |some ⟨.pair (.ty (.sl e)) (.pair (.ty (.int .i64)) (.pair (.mp m) _)),x⟩=>(match qbR s f m with
   |some ⟨.mapc,en⟩=>some ([id,m],⟨.ty (.sl e),x.1⟩,⟨.mapc,en⟩)
   |_=>none)
  |_=>none)
 |_=>none
def qrx (s:St) (f:Nat→Bool) (args:List AV):Option (List AV) :=
 match args with
 |a::rest=>(match qtw s f a with
  |some p=>some (qvY::p.2.1::p.2.2::rest.map (·.ren qhc qhc))
  |none=>none)
 |[]=>none
def qro (s:St) (f:Nat→Bool) (ps:Plain) (args:List AV):Option (Bool×AV) :=
 match qrx s f args with
 |some l=>(match ps l with
  |some v=>if qup v.2.sh then some v else none
  |none=>none)
 |none =>
 bif args.any (fun a=>(qm5 s f a).isSome) then
  match ps (args.map (qrK s f)) with
   |some v=>if qup v.2.sh then some v else none
   |none=>none
 else match args.filterMap qyo with
 |[]=>ps (args.map (·.ren qhc qhc))
 |i::l=>bif (i::l).all fun i=>qx5 (qbR s f i) then
   match ps (args.map fun a=>(quw s f a).ren qhc qhc) with
   |some v=>if qNr v.2.sh then some v else none
   |none=>none
  else none
def qxl (P:Program) (s:St) (f:Nat→Bool) (p:Nat×TypeId) (args:List AV):Option (Bool×AV) :=
 match args with
 |[⟨.box id 0,_⟩]=>bif known P p.2 then(match qk0 P s f p.2 (.box id p.1) with
  |some v=>bif qup v.sh then some (true,v) else none
  |none=>none) else none
 |_=>none
def qc1 (C:Ctx) (s:St) (no:Lim) (id:Nat) (o:Oper):Res Eff :=
 match o.op with
 | .call c=>match qiS s c with
  |some (g,args)=>(match C.plain g with
   |some ps=>(match C.gets g with
    |some p=>(qxl C.P s (no.rd id) p args).map fun v=>(v.1,.val v.2)
    |none=>(qro s (no.rd id) ps args).map fun v=>(v.1,.val (v.2.ren (qbI id []) (qbI id []))))
   |none=>none)
  |none=>opE C.P C.eqs s no id o
 |_=>opE C.P C.eqs s no id o
def walked (C:Ctx) (s:St) (o:Oper):Option (FuncId×List AV) :=
 match o.op with
 | .call c=>match qiS s c with
  |some (g,args)=>(match C.plain g with
   |some _=>none
   |none=>some (g,args))
  |none=>none
 |_=>none
abbrev qc8:=FuncId→List AV→qbm→Nat→(AV→qbm→Nat→Option R)→Option R
def qhp (C:Ctx) (call:qc8) (n:Nat) (no:Lim) (id:Nat) (o:Oper) (s:St) (K:St→Option R):Option R :=
 bif qbH n o then
  match walked C s o with
  |some (g,args)=>qtC (C.owns g) (call g) args s fun v s'=>match qwz v with
   |some _=>none
   |none=>K (s'.setO o.dst v)
  |none=>match qc1 C s no id o with
   |some (c,e)=>bif c then K (s.apply o.dst e) else none
   |none=>none
 else none
def Ty.cellsV:(t:Ty)→t.den→Option (List Value)
 | .unit,_=>some []
 | .pair a b,x=>match Ty.cellsV a x.1,Ty.cellsV b x.2 with
  |some c,some d=>some (c++d)
  |_,_=>none
 | .int k,n=>some [.int k n]
 | .bool,b=>some [.bool b]
 | .str,s=>some [.string ⟨⟨s⟩⟩]
 |_,_=>none
def AV.value (a:AV):Option Value :=
 match a with
 |⟨.ty t,x⟩=>(match t.cellsV x with
  |some cs=>some (mkV t.agg cs)
  |none=>none)
 |_=>none
def isIface:Value→Bool
 | .iface _ _=>true
 |_=>false
def qdl (b:List UInt8):List Int:=b.map fun b=>(b.toNat:Int)
def qv8 (a:AV):Option (List Int) :=
 match a with
 |⟨.ty .str,b⟩=>some (qdl b)
 |a=>qyw a
def bytesOf (xs:List Int):List UInt8:=xs.map toByte
def opY (P:Program) (s:St) (id:Nat) (o:Oper):Res Eff :=
 match o.op with
 | .makeInterface t x=>match P.underlying t with
  |some (.interface _)=>none
  |some _=>(qN s x).value.map fun v=>(true,.val (.lit (.iface t v)))
  |none=>none
 | .makeSlice t (.tmp i) (.tmp j)=>match P.underlying t,qiv (qN s (.tmp i)) with
  |some (.slice e),some c=>(match qjS P qg0 e,qvl P e,P.info? e with
   |some τ,some z,some inf=>(match z.as τ with
    |some z=>if i=j∧P.cellsOf e=τ.size∧0<τ.size∧(look id s.heap).isNone=true then
      some (qgE c inf.bytes,.new id ⟨.rowc τ,zeros c z⟩ ⟨.win id τ,(0,qdT 0 c)⟩) else none
    |none=>none)
   |_,_,_=>none)
  |_,_=>none
 | .makeMap _ none=>if(look id s.heap).isNone=true then some (true,.new id ⟨.mapc,[]⟩ ⟨.mp id,()⟩) else none
 | .convert t u x=>match P.underlying t,P.underlying u,qN s x with
  |some (.slice e),some .string,⟨.win b (.int .u8),y⟩=>(match look b s.heap with
   |some ⟨.rowc (.int .u8),xs⟩=>if qyh P e=true then yes (.val (.str (bytesOf (shown (xs:List Int) y)))) else none
   |_=>none)
  |_,_,_=>none
 | .call c=>match c.callee with
  | .builtin .copy=>(match c.argTypes.toList,c.args.toList with
   |[t,_],[x,y]=>(match P.underlying t,qN s x with
    |some (.slice el),⟨.win b (.int .u8),v⟩=>(match look b s.heap,qv8 (qN s y),P.info? el with
     |some ⟨.rowc (.int .u8),xs⟩,some ys,some i=>if i.size=1 then yes (.put b ⟨.rowc (.int .u8),qei (xs:List Int) v.1 ys v.2⟩) else none
     |_,_,_=>none)
    |_,_=>none)
   |_,_=>none)
  |_=>none
 |_=>none
def opZ (P:Program) (s:St) (o:Oper):Option St :=
 match o.op with
 | .slice t x none none none=>match P.underlying t,qN s x with
  |some (.array n el),⟨.box id 0,_⟩=>(match look id s.heap with
   |some ⟨.ty (.arr m e),xs⟩=>if m=n∧P.cellsOf el=e.size∧known P el=true∧0<e.size∧0<n then
     some {s.setO o.dst ⟨.win id e,(0,n)⟩ with heap:=Av.put id ⟨.rowc e,xs⟩ s.heap} else none
   |_=>none)
  |_,_=>none
 |_=>none
def panics (s:St) (o:Oper):Option (Option Value) :=
 match o.op with
 | .panic x=>(match qN s x with
  |⟨.lit v,_⟩=>if isIface v then some (some v) else some none
  |_=>some none)
 |_=>none
def qvQ (C:Ctx) (call:qc8) (n:Nat) (no:Lim) (id:Nat) (o:Oper) (s:St) (K:St→Option R) (Kp:Value→St→Option R):Option R :=
 bif qbH n o then
  match panics s o with
  |some (some v)=>Kp v s
  |some none=>none
  |none=>match walked C s o with
   |some (g,args)=>qtC (C.owns g) (call g) args s fun v s'=>match qwz v with
    |some u=>Kp u s'
    |none=>K (s'.setO o.dst v)
   |none=>match opZ C.P s o with
    |some s'=>K s'
    |none=>match opY C.P s id o with
     |some (c,e)=>bif c then K (s.apply o.dst e) else none
     |none=>match qc1 C s no id o with
      |some (c,e)=>bif c then K (s.apply o.dst e) else none
      |none=>none
 else none
def qg7 (ops:Array Oper) (j:Nat):Option Nat:=(ops[j]?).bind (·.dst)
def qcR (C:Ctx) (call:qc8) (n:Nat) (no:Lim) (ops:Array Oper):List Oper→(id:Nat)→St→(St→Option R)→Option R
 |[],_,s,K=>K s
 |o::l,id,s,K=>match o.guard with
  |none=>qhp C call n no id o s fun s=>qcR C call n no ops l (id+16) s K
  |some (j,want)=>match qg7 ops j with
   |some d=>(match s.get d with
    |⟨.ty .bool,b⟩=>bif b then
      (bif want then qhp C call n no id o (s.set d (.bool true)) fun s=>qcR C call n no ops l (id+16) s K
       else bif qbH n o then qcR C call n no ops l (id+16) ((s.set d (.bool true)).setO o.dst .undef) K else none)
     else(bif want then bif qbH n o then qcR C call n no ops l (id+16) ((s.set d (.bool false)).setO o.dst .undef) K else none
       else qhp C call n no id o (s.set d (.bool false)) fun s=>qcR C call n no ops l (id+16) s K)
    |⟨.tup (.ty .unit),_⟩=>bif qbH n o then qcR C call n no ops l (id+16) (s.setO o.dst .undef) K else none
    |_=>none)
   |none=>none
def qtW (C:Ctx) (call:qc8) (n:Nat) (no:Lim) (ops:Array Oper):List Oper→(id:Nat)→St→(St→Option R)→(Value→St→Option R)→Option R
 |[],_,s,K,_=>K s
 |o::l,id,s,K,Kp=>match o.guard with
  |none=>qvQ C call n no id o s (fun s=>qtW C call n no ops l (id+16) s K Kp) Kp
  |some (j,want)=>match qg7 ops j with
   |some d=>(match s.get d with
    |⟨.ty .bool,b⟩=>bif b then
      (bif want then qvQ C call n no id o (s.set d (.bool true)) (fun s=>qtW C call n no ops l (id+16) s K Kp) Kp
       else bif qbH n o then qtW C call n no ops l (id+16) ((s.set d (.bool true)).setO o.dst .undef) K Kp else none)
     else(bif want then bif qbH n o then qtW C call n no ops l (id+16) ((s.set d (.bool false)).setO o.dst .undef) K Kp else none
       else qvQ C call n no id o (s.set d (.bool false)) (fun s=>qtW C call n no ops l (id+16) s K Kp) Kp)
    |⟨.tup (.ty .unit),_⟩=>bif qbH n o then qtW C call n no ops l (id+16) (s.setO o.dst .undef) K Kp else none
    |_=>none)
   |none=>none
def iter (f:St→ql6→Option R):Nat→St→ql6→Option R
 |0,_,_=>none
 |m+1,s,K=>f s fun e s'=>match e with
  | .normal=>iter f m s' K
  |e=>K e s'
def qOQ:Lim:=⟨fun _ _=>false,fun _ _=>true⟩
def noB (_:Nat):Bool:=false
def makes (base:Nat):List Oper→Nat→List Nat
 |[],_=>[]
 |o::l,id=>match o.op with
  | .alloc _ | .box _ _=>id::makes base l (id+16)
  |_=>makes base l (id+16)
def edges (o:Oper):List Nat:=o.after.toList.filterMap fun e=>if Region.binds .any e then some e.on else none
def qtQ (acc:List Nat):List Nat→Nat
 |[]=>0
 |e::l=>((1 <<< e) |||acc.getD e 0) |||qtQ acc l
def qqR:List Oper→List Nat→List Nat
 |[],acc=>acc
 |o::l,acc=>qqR l (acc++[qtQ acc (edges o)])
def qAV (t:Nat):List Oper→Option Oper
 |[]=>none
 |o::l=>match o.dst with
  |some d=>if d==t then some o else qAV t l
  |none=>qAV t l
def qPk (s:St) (ops:List Oper):Nat→Nat→Option Nat
 |0,_=>none
 |d+1,t=>match qAV t ops with
  |some o=>(match o.op with
   | .fieldAddr _ (.tmp x) _ | .indexAddr _ (.tmp x) _ | .nilCheck (.tmp x) | .move (.tmp x) | .assign (.tmp x)=>qPk s ops d x
   |_=>none)
  |none=>(match s.get t with
   |⟨.box id _,_⟩=>some id
   |⟨.boxi id _ _ _,_⟩=>some id
   |⟨.win id _,_⟩=>some id
   |⟨.elp id _ _,_⟩=>some id
   |_=>none)
def qtX (s:St) (ops:List Oper) (o:Oper):Option (Option Nat) :=
 match o.op with
 | .store _ (.tmp t) _=>some (qPk s ops 8 t)
 | .store _ _ _=>some none
 |_=>none
def qLu (b:Nat):Option Nat→Bool
 |some c=>c==b
 |none=>true
def unordered (anc:List Nat) (i k:Nat):Bool:=bif Nat.blt i k then !(anc.getD k 0).testBit i else !(anc.getD i 0).testBit k
def clash (anc:List Nat) (i b:Nat):Nat→List (Option (Option Nat))→Bool
 |_,[]=>false
 |k,none::l=>clash anc i b (k+1) l
 |k,some w::l=>(unordered anc i k&&qLu b w)||clash anc i b (k+1) l
def qym (s:St) (base:Nat) (ops:Array Oper):Lim where
 rd:=fun id b=>(makes base ops.toList base).contains b||clash (qqR ops.toList []) ((id-base) / 16) b 0 (ops.toList.map (qtX s ops.toList))
 wr:=fun id b=>match (ops.toList.map (qtX s ops.toList)).getD ((id-base) / 16) none with
  |some w=>qLu b w
  |none=>true
inductive Tree where
 |leaf (s:St)
 |ite (b:Bool) (t e:Tree)
 |fail
def Tree.fold (K:St→Option R):Tree→Option R
 | .leaf s=>K s
 | .ite b t e=>bif b then t.fold K else e.fold K
 | .fail=>none
def Tree.bindO (f:St→Option Tree):Tree→Option Tree
 | .leaf s=>f s
 | .ite b t e=>match t.bindO f with
  |some t=>(match e.bindO f with
   |some e=>some (.ite b t e)
   |none=>none)
  |none=>none
 | .fail=>some .fail
def AV.known (a:AV):Bool :=
 match a.sh with
 | .top=>false
 | .tup (.ty .unit)=>false
 |_=>true
def Sh.merge (b:Bool):(s:Sh)→s.den→(t:Sh)→t.den→Option AV
 | .osl i e,x,.osl j e',y=>match Ty.dec e e' with
  |isTrue h=>if i=j then some ⟨.osl j e',bif b then h▸x else y⟩ else some ⟨.ty (.sl e'),bif b then h▸x else y⟩
  |isFalse _=>none
 | .box i o,_,.box j o',_=>if i=j∧o=o' then some (.box j o') else none
 | .ref τ o,x,.ref τ' o',y=>match Ty.dec τ τ' with
  |isTrue h=>if o=o' then some ⟨.ref τ' o',bif b then h▸x else y⟩ else none
  |isFalse _=>none
 |s,x,.ty τ,y=>match s.as x τ with
  |some x'=>some ⟨.ty τ,bif b then x' else y⟩
  |none=>none
 | .ty τ,x,t,y=>match t.as y τ with
  |some y'=>some ⟨.ty τ,bif b then x else y'⟩
  |none=>none
 | .pair p q,x,.pair p' q',y=>match Sh.merge b p x.1 p' y.1,Sh.merge b q x.2 q' y.2 with
  |some u,some v=>some (AV.qmF u v)
  |_,_=>none
 |_,_,_,_=>none
def AV.merge (b:Bool) (x y:AV):Option AV :=
 if x.known&&y.known then Sh.merge b x.sh x.v y.sh y.v else some .top
def qzx (b:Bool) (s1 s2:St):List Nat→List (Nat×AV)→Option (List (Nat×AV))
 |[],e=>some e
 |t::W,e=>match AV.merge b (s1.get t) (s2.get t) with
  |some v=>qzx b s1 s2 W (put t v e)
  |none=>none
def qJH (W:List Nat) (s:St) (b:Bool) (s1 s2:St):Option St :=
 (qzx b s1 s2 W s.ents).map fun e=>{s with ents:=e,next:=max s1.next s2.next}
def qOA (b:Bool):Option Bool→Option Bool
 |none=>some b
 |some c=>some (b&&c)
def qR7 (b:Bool):Option Bool→Option Bool→Option Bool
 |none,none=>none
 |none,some d=>some (bif b then true else d)
 |some c,none=>some (bif b then c else true)
 |some c,some d=>some (bif b then c else d)
def Tree.merge (W:List Nat) (s:St):Tree→Option (Option Bool×St)
 | .leaf s1=>some (none,s1)
 | .fail=>none
 | .ite b t .fail=>(t.merge W s).map fun p=>(qOA b p.1,p.2)
 | .ite b .fail e=>(e.merge W s).map fun p=>(qOA (!b) p.1,p.2)
 | .ite b t e=>match t.merge W s with
  |some p=>(match e.merge W s with
   |some q=>(qJH W s b p.2 q.2).map fun s'=>(qR7 b p.1 q.1,s')
   |none=>none)
  |none=>none
def Tree.join (W:List Nat) (s:St) (t:Tree):Tree :=
 match t.merge W s with
 |some (none,s')=>.leaf s'
 |some (some c,s')=>.ite c (.leaf s') .fail
 |none=>t
def sure (s:St) (o:Oper):Bool :=
 match o.op with
 | .move _ | .assign _ | .pick .. | .box .. | .build .. | .buildSlice .. | .load .. | .nilCheck _ | .unOp .. | .convert .. | .makeFunc .. | .fieldAddr .. | .field .. | .extract ..=>true
 | .binOp op _ x y _=>(match op with
  | .sub | .mul | .and | .or | .xor | .andNot | .eql | .neq | .lss | .leq | .gtr | .geq=>true
  | .add=>(match qN s x with
   |⟨.ty (.int _),_⟩=>true
   |_=>false)
  | .shl | .shr=>(match y with
   | .const (.int _ n)=>decide (0≤n)
   |_=>false)
  | .quo | .rem=>(match y with
   | .const (.int _ n)=>decide (n≠0)
   |_=>false))
 | .call c=>(match c.callee with
  | .builtin .len | .builtin .min | .builtin .max=>true
  |_=>false)
 |_=>false
def qpf (C:Ctx) (n:Nat) (no:Lim) (id:Nat) (o:Oper) (s:St):Option Tree :=
 bif qbH n o then
  match walked C s o with
  |some _=>none
  |none=>match qc1 C s no id o with
   |some (c,.val a)=>some (bif sure s o then .leaf (s.setO o.dst a) else .ite c (.leaf (s.setO o.dst a)) .fail)
   |_=>none
 else none
def qqh (d:Option Nat) (kn:List (Nat×Bool)):List (Nat×Bool) :=
 match d with
 |some d=>kn.filter fun p=>!(p.1==d)
 |none=>kn
def qzj (kn:List (Nat×Bool)):Operand→Option Bool
 | .const (.bool b)=>some b
 | .tmp t=>(kn.find? fun p=>p.1==t).map (·.2)
 |_=>none
def qHo (kn:List (Nat×Bool)) (o:Oper):Option Bool :=
 match o.op with
 | .move (.tmp t)=>qzj kn (.tmp t)
 | .assign (.tmp t)=>qzj kn (.tmp t)
 | .pick c a b=>match qzj kn c with
  |some true=>qzj kn a
  |some false=>qzj kn b
  |none=>none
 |_=>none
def learn (o:Oper) (kn:List (Nat×Bool)):List (Nat×Bool) :=
 match o.dst,qHo kn o with
 |some d,some b=>(d,b)::qqh (some d) kn
 |d,_=>qqh d kn
def qeE (C:Ctx) (n:Nat) (no:Lim) (ops:Array Oper):List Oper→(id:Nat)→(kn:List (Nat×Bool))→St→Option Tree
 |[],_,_,s=>some (.leaf s)
 |o::l,id,kn,s=>match o.guard with
  |none=>(qpf C n no id o s).bind fun t=>t.bindO (qeE C n no ops l (id+16) (learn o kn))
  |some (j,want)=>match qg7 ops j with
   |some d=>(match s.get d with
    |⟨.ty .bool,b⟩ =>
     let on:=fun c=>bif c==want then(qpf C n no id o (s.set d (.bool c))).bind fun t=>t.bindO (qeE C n no ops l (id+16) (learn o ((d,c)::kn)))
      else bif qbH n o then qeE C n no ops l (id+16) (qqh o.dst ((d,c)::kn)) ((s.set d (.bool c)).setO o.dst .undef) else none
     (match kn.find? (fun p=>p.1==d) with
     |some (_,c)=>on c
     |none=>match on true with
      |some t=>(match on false with
       |some e=>some (.ite b t e)
       |none=>none)
      |none=>none)
    |⟨.tup (.ty .unit),_⟩=>bif qbH n o then qeE C n no ops l (id+16) (qqh o.dst kn) (s.setO o.dst .undef) else none
    |_=>none)
   |none=>none
def qRG:Operand→Option Nat
 | .tmp t=>some t
 |_=>none
def isFirst (o:Oper):Bool :=
 match o.guard with
 |none=>(match o.op with
  | .move _ | .assign _ | .load .. | .fieldAddr ..=>true
  |_=>false)
 |some _=>false
def qy0:List Oper→List Bool→List Bool
 |[],acc=>acc
 |o::l,acc=>qy0 l (acc++[isFirst o&&(edges o).all fun e=>acc.getD e false])
def idxOf (want:Bool):List Bool→Nat→List Nat
 |[],_=>[]
 |b::l,k=>bif b==want then k::idxOf want l (k+1) else idxOf want l (k+1)
def qya (ops:Array Oper):List Nat→Array Bool→Bool
 |[],_=>true
 |i::l,listed=>Region.free .any ops listed i&&((Region.ready .any ops listed).contains i&&qya ops l (listed.setIfInBounds i true))
def qvD (ops:Array Oper):List Nat→Array Bool→Bool
 |[],listed=>(Region.ready .any ops listed).isEmpty
 |i::l,listed=>(Region.ready .any ops listed==[i])&&qvD ops l (listed.setIfInBounds i true)
def qLm (F:List Nat) (l:Array Bool):Array Bool:=F.foldl (fun l i=>l.setIfInBounds i true) l
def qwr (ops:Array Oper):List Nat:=idxOf true (qy0 ops.toList []) 0
def qpG (ops:Array Oper):List Nat:=idxOf false (qy0 ops.toList []) 0
def qMP (ops:Array Oper):Bool :=
 Region.noSelect ops&&(Nat.beq ((qwr ops).length+(qpG ops).length) ops.size &&
  (qya ops (qwr ops) (Array.replicate ops.size false)&&qvD ops (qpG ops) (qLm (qwr ops) (Array.replicate ops.size false))))
def qAT (C:Ctx) (s:St) (o:Oper):Option (AV×List Nat) :=
 match o.op with
 | .move x=>some (qN s x,[])
 | .assign x=>some (qN s x,[])
 | .load t x=>(match qN s x with
  |⟨.box id off,_⟩=>bif known C.P t then(match qk0 C.P s noB t (.box id off) with
   |some v=>some (v,[id])
   |none=>none) else none
  |_=>none)
 | .fieldAddr t x f=>(match qu1 C.P t f with
  |some fl=>if C.P.cellsOf fl.type=0∨!known C.P fl.type then none else(match qN s x with
   |⟨.box id off,_⟩=>some (.box id (off+fl.offset),[])
   |_=>none)
  |none=>none)
 |_=>none
def qnD (C:Ctx) (n:Nat) (ops:Array Oper):List Nat→St→List Nat→Option (St×List Nat)
 |[],s,lb=>some (s,lb)
 |i::l,s,lb=>match ops[i]? with
  |some o=>bif isFirst o&&qbH n o then(match qAT C s o with
   |some (v,b)=>qnD C n ops l (s.setO o.dst v) (lb++b)
   |none=>none) else none
  |none=>none
def qLF (C:Ctx) (call:qc8) (n:Nat) (ops:Array Oper):List Nat→(id:Nat)→St→(St→Option R)→(Value→St→Option R)→Option R
 |[],_,s,K,_=>K s
 |i::l,id,s,K,Kp=>match ops[i]? with
  |some o=>bif o.guard.isNone then qvQ C call n qOQ id o s (fun s=>qLF C call n ops l (id+16) s K Kp) Kp else none
  |none=>none
def qvU (ops:Array Oper):List Nat→List Nat
 |[]=>[]
 |i::l=>(match ops[i]? with
  |some o=>o.op.operands.toList.filterMap qRG++o.dst.toList
  |none=>[])++qvU ops l
def qQt (lb:List Nat) (vals:List AV) (h:qbm):Bool :=
 lb.all fun id=>!(reach h 4 (qej [] ((qnR vals).filter (qlh h)))).contains id
def qtD (ops:Array Oper):List Nat:=ops.toList.filterMap (·.dst)
def qMt (C:Ctx) (call:qc8) (n:Nat) (ops:Array Oper) (M T:List Nat):List AV→qbm→Nat→(Exit→List AV→qbm→Nat→Option R)→Option R:=fun vals heap nx Ke =>
 qLF C call n ops (qpG ops) nx {ents:=qck M vals,heap:=heap,next:=nx+16*ops.size}
  (fun s=>if qh2 (M++T) s.ents then Ke .normal (M.map s.get) s.heap s.next else none)
  (fun v s=>if qh2 (M++T) s.ents then Ke (.panic [⟨v,false,false⟩]) (M.map s.get) s.heap s.next else none)
def qMv (ops:Array Oper):Bool:=ops.toList.any fun o=>match o.op with
 | .makeSlice _ (.tmp _) _=>true
 |_=>false
def qJ6 (s1:St) (M T:List Nat) (K:ql6):Exit→List AV→qbm→Nat→(Nat→Option Nat)→Option R:=fun e vals h nx ρ =>
 match e with
 | .normal=>K .normal {ents:=qpM (qdW (·.ren ρ some) (without (M++T) s1.ents s1.ents)) M vals,heap:=h,next:=nx}
 | .panic ch=>K (.panic ch) {ents:=qdW (·.ren ρ some) (without (M++T) s1.ents s1.ents),heap:=h,next:=nx}
 |_=>none
def qLB (C:Ctx) (call:qc8) (tset:Nat→Bool) (n:Nat) (ops:Array Oper) (s:St) (K:ql6):Option R :=
 if qMP ops&&(qvU ops (qpG ops)++qtD ops).all tset then
  match qnD C n ops (qwr ops) s [] with
  |some (s1,lb) =>
   if qQt lb ((qvU ops (qpG ops)).map s1.get) s1.heap then
    inLoop (qMt C call n ops (qvU ops (qpG ops)) (qtD ops)) ((qvU ops (qpG ops)).map s1.get) s1.heap s1.next (qJ6 s1 (qvU ops (qpG ops)) (qtD ops) K)
   else none
  |none=>none
 else none
def qe5:Code→List Nat
 | .region _ ops _=>qtD ops
 | .seq a b=>qe5 a++qe5 b
 | .cond _ a b=>qe5 a++qe5 b
 |_=>[]
def qnp (C:Ctx) (drawn:(FuncId→Bool)→Array Oper→Bool) (n:Nat):Code→St→Option Tree
 | .skip,s=>some (.leaf s)
 | .region _ ops draw,s =>
  if draw then
   (if drawn (fun g=>(C.plain g).isSome) ops then(qeE C n (qym s s.next ops) ops ops.toList s.next [] {s with next:=s.next+16*ops.size}).map (Tree.join (qtD ops) s) else none)
  else(qeE C n qOQ ops ops.toList s.next [] {s with next:=s.next+16*ops.size}).map (Tree.join (qtD ops) s)
 | .seq a b,s=>(qnp C drawn n a s).bind fun t=>t.bindO (qnp C drawn n b)
 | .cond c x y,s=>match qN s c with
  |⟨.ty .bool,b⟩=>(match qnp C drawn n x s with
   |some t=>(match qnp C drawn n y s with
    |some e=>some (Tree.join (qe5 x++qe5 y) s (.ite b t e))
    |none=>none)
   |none=>none)
  |_=>none
 |_,_=>none
def qnY:Code→Nat→Bool
 | .seq a b,l=>qnY a l||qnY b l
 | .label l',l=>l'==l
 |_,_=>false
def qEa (f:Option Nat→St→ql6→Option R) (has:Nat→Bool):Nat→Option Nat→St→ql6→Option R
 |0,_,_,_=>none
 |m+1,j,s,K=>f j s fun e s'=>match e with
  | .goto l=>bif has l then qEa f has m (some l) s' K else K (.goto l) s'
  |e=>K e s'
def qxY:Code→Option Nat
 | .region r _ _=>some (2*r)
 | .seq (.region r _ _) _=>some (2*r+1)
 |_=>none
def evJ (C:Ctx) (call:qc8) (drawn:(FuncId→Bool)→Array Oper→Bool) (tset:Nat→Bool) (fid n unroll:Nat):Code→Option Nat→St→ql6→Option R
 | .skip,none,s,K=>K .normal s
 | .region id ops draw,none,s,K=>match qnp C drawn n (.region id ops draw) s with
  |some t=>t.fold (K .normal)
  |none=>if draw then
    if drawn (fun g=>(C.plain g).isSome) ops&&!qMv ops then qcR C call n (qym s s.next ops) ops ops.toList s.next {s with next:=s.next+16*ops.size} fun s=>K .normal s
    else qLB C call tset n ops {s with next:=s.next+16*ops.size} K
   else qtW C call n qOQ ops ops.toList s.next {s with next:=s.next+16*ops.size} (fun s=>K .normal s) (fun v s=>K (.panic [⟨v,false,false⟩]) s)
 | .seq a b,none,s,K=>match (qxY a).bind (C.cuts fid) with
  |some L=>if(L.M++L.T).all tset then inLoop L.run (L.M.map s.get) s.heap s.next fun e vals h nx ρ =>
    K e {ents:=qpM (qdW (·.ren ρ some) (without (L.M++L.T) s.ents s.ents)) L.M vals,heap:=h,next:=nx} else none
  |none=>evJ C call drawn tset fid n unroll a none s fun e s'=>match e with
   | .normal=>evJ C call drawn tset fid n unroll b none s' K
   |e=>K e s'
 | .seq a b,some l,s,K=>bif qnY a l then evJ C call drawn tset fid n unroll a (some l) s fun e s'=>match e with
   | .normal=>evJ C call drawn tset fid n unroll b none s' K
   |e=>K e s'
  else evJ C call drawn tset fid n unroll b (some l) s K
 | .cond c x y,none,s,K=>match qnp C drawn n (.cond c x y) s with
  |some t=>t.fold (K .normal)
  |none=>match qN s c with
   |⟨.ty .bool,b⟩=>bif b then evJ C call drawn tset fid n unroll x none s K else evJ C call drawn tset fid n unroll y none s K
   |_=>none
 | .block id c,none,s,K=>evJ C call drawn tset fid n unroll c none s fun e s'=>match e with
  | .exit j=>if j==id then K .normal s' else K (.exit j) s'
  |e=>K e s'
 | .loop c,none,s,K=>match (qiQ c).bind (C.loops fid) with
  |some L=>if(L.M++L.T).all tset then inLoop L.run (L.M.map s.get) s.heap s.next fun e vals h nx ρ =>
    K e {ents:=qpM (qdW (·.ren ρ some) (without (L.M++L.T) s.ents s.ents)) L.M vals,heap:=h,next:=nx} else none
  |none=>iter (evJ C call drawn tset fid n unroll c none) unroll s K
 | .scope c,none,s,K=>qEa (evJ C call drawn tset fid n unroll c) (qnY c) unroll none s K
 | .exit id,none,s,K=>K (.exit id) s
 | .goto l,none,s,K=>K (.goto l) s
 | .label _,none,s,K=>K .normal s
 | .label l',some l,s,K=>bif l'==l then K .normal s else none
 | .ret,none,s,K=>K .ret s
 |_,_,_,_=>none
@[reducible] def ev (C:Ctx) (call:qc8) (drawn:(FuncId→Bool)→Array Oper→Bool) (tset:Nat→Bool) (fid n unroll:Nat) (c:Code) (s:St) (K:ql6):Option R :=
 evJ C call drawn tset fid n unroll c none s K
def enum:Nat→List AV→List (Nat×AV)
 |_,[]=>[]
 |k,a::l=>(k,a)::enum (k+1) l
def qAy (P:Program) (s:St):ResultVar→Option AV
 | .tmp t=>some (s.get t)
 | .cell a t=>if known P t then qk0 P s noB t (s.get a) else none
def qye (P:Program) (s:St):List ResultVar→Option AV
 |[]=>some .unit
 |r::l=>match qAy P s r,qye P s l with
  |some a,some b=>if a.solid then some ⟨.pair a.sh b.sh,(a.v,b.v)⟩ else none
  |_,_=>none
def qAq (P:Program) (s:St) (rs:List ResultVar):Option AV :=
 match rs with
 |[r]=>qAy P s r
 |rs=>match qye P s rs with
  |some a=>some ⟨.tup a.sh,a.v⟩
  |none=>none
def evF (C:Ctx) (drawn:(FuncId→Bool)→Array Oper→Bool) (unroll:Nat):Nat→qc8
 |0,_,_,_,_,_=>none
 |d+1,f,args,h,nx,K=>match C.bodies f with
  |some b=>b args h nx K
  |none=>match C.P.funcs[f]? with
  |some fn=>(match fn.body with
   |some c=>if args.length≤fn.ntmps then ev C (evF C drawn unroll d) drawn (fun _=>true) f fn.ntmps unroll c {ents:=enum 0 args,heap:=h,next:=nx} fun e s =>
     match e with
     | .ret | .normal=>(match qAq C.P s fn.results.toList with
      |some v=>K v s.heap s.next
      |none=>none)
     | .panic ch=>(match qzA ch with
      |some v=>K (qLg v) s.heap s.next
      |none=>none)
     |_=>none
    else none
   |none=>none)
  |none=>none
end Go.Av
