/- Texts of the proof, one behind the other. -/
import Derived.Test.YtealbjacocgjcaaGreatGateFaultK19
section
namespace Go.Av
open Go
abbrev w64 (n:Int):Int:=IntKind.i64.wrap n
abbrev qi {α:Type} (l:List α):Int:=((List.length l:Nat):Int)
abbrev u8I (b:UInt8):Int:=((UInt8.toNat b:Nat):Int)
inductive PO (α:Type):Type 1 where
 |ret (a:α)
 |fail
 |ite (b:Bool) (t e:PO α)
 |opt {β:Type} (o:Option β) (k:β→PO α)
namespace PO
def run {α γ:Type} (k:α→Option γ):PO α→Option γ
 | .ret a=>k a
 | .fail=>none
 | .ite b t e=>bif b then t.run k else e.run k
 | .opt o f=>match o with
  |none=>none
  |some x=>(f x).run k
def val {α:Type}:PO α→Option α
 | .ret a=>some a
 | .fail=>none
 | .ite b t e=>bif b then t.val else e.val
 | .opt o f=>match o with
  |none=>none
  |some x=>(f x).val
theorem qnw {α γ:Type} (k:α→Option γ):∀t:PO α,t.run k=t.val.bind k
 | .ret _=>rfl
 | .fail=>rfl
 | .ite b t e=>by
  simp only[run,val,qnw k t,qnw k e]
  cases b<;>rfl
 | .opt o f=>by
  cases o with
  |none=>rfl
  |some x=>simp only[run,val,qnw k (f x)]
def qH {α:Type} (d:α) (t:PO α):α:=t.val.getD d
theorem qcg {α:Type} (d:α) {t:PO α} (h:t.val.isSome=true):t.val=some (t.qH d):=by
 unfold qH
 cases e:t.val with
 |none=>rw[e] at h;cases h
 |some a=>rfl
def sure {α:Type}:PO α→Prop
 | .ret _=>True
 | .fail=>False
 | .ite _ t e=>t.sure∧e.sure
 | .opt _ _=>False
theorem qco {α:Type} (d:α):∀{t:PO α},t.sure→t.val=some (t.qH d)
 | .ret _,_=>rfl
 | .fail,h=>h.elim
 | .ite b t e,h=>by
  cases b
  ·exact qco (t:=e) d h.2
  ·exact qco (t:=t) d h.1
 | .opt _ _,h=>h.elim
def qw5 {α:Type}:PO α→Prop
 | .ret _=>True
 | .fail=>False
 | .ite b t e=>(b=true→t.qw5)∧(b=false→e.qw5)
 | .opt _ _=>False
theorem qrm {α:Type} (d:α):∀{t:PO α},t.qw5→t.val=some (t.qH d)
 | .ret _,_=>rfl
 | .fail,h=>h.elim
 | .ite b t e,h=>by
  cases b
  ·exact qrm (t:=e) d (h.2 rfl)
  ·exact qrm (t:=t) d (h.1 rfl)
 | .opt _ _,h=>h.elim
def bind {α β:Type} (t:PO α) (f:α→PO β):PO β :=
 match t with
 | .ret a=>f a
 | .fail=>.fail
 | .ite b t e=>.ite b (t.bind f) (e.bind f)
 | .opt o k=>.opt o fun x=>(k x).bind f
end PO
inductive TL (σ:Type) where
 |on (s:σ)
 |out (c:Nat) (s:σ)
def qeK {σ:Type} (turn:σ→PO (TL σ)):Nat→σ→Option (Nat×σ)
 |0,_=>none
 |n+1,s=>match (turn s).val with
  |none=>none
  |some (.on s')=>qeK turn n s'
  |some (.out c s')=>some (c,s')
theorem qeQ {σ:Type} {turn:σ→PO (TL σ)} {n:Nat} {s s':σ} (h:(turn s).val=some (.on s')):qeK turn (n+1) s=qeK turn n s':=by
 simp only[qeK,h]
theorem qb6 {σ:Type} {turn:σ→PO (TL σ)} {n:Nat} {s s':σ} {c:Nat} (h:(turn s).val=some (.out c s')):qeK turn (n+1) s=some (c,s'):=by
 simp only[qeK,h]
def way (i:Nat):Bool:=Nat.beq i 0
def prd (i:Nat):Nat:=i-1
def qnT {α:Type}:List Exit→Nat→(Exit→Option α)→Option α
 |[],_,_=>none
 |[e],_,k=>k e
 |e::e'::l,i,k=>bif way i then k e else qnT (e'::l) (prd i) k
structure LoopN where
 M:List Nat
 T:List Nat
 D:List Nat
 ss:List Sh
 hs:List Sh
 es:List Exit
 σ:Type
 x0:qh ss→qh hs→σ
 put:qh ss→qh hs→σ→qh ss×qh hs
 turn:qh ss→qh hs→σ→PO (TL σ)
 fuel:qh ss→qh hs→Nat
namespace LoopN
variable (L:LoopN)
abbrev vals (x:qh L.ss) (y:qh L.hs) (s:L.σ):List AV:=qe9 L.ss (L.put x y s).1
abbrev heap (x:qh L.ss) (y:qh L.hs) (s:L.σ):q9:=enum 0 (qe9 L.hs (L.put x y s).2)
def mid (x:qh L.ss) (y:qh L.hs) (s:L.σ):List AV×q9 :=
 let h:=below 32 (L.heap x y s)
 let ts:=qdw [] (allRows (L.vals x y s)++qj7 h)
 ((L.vals x y s).map (·.ren (qpK ts) (qgv 32)),qde (·.ren (qpK ts) (qgv 32)) h)
def qQx (p:List AV×q9):List Nat:=reach p.2 4 (qdw [] ((qlz p.1).filter (qim p.2)))
def qSN (p:List AV×q9):List Nat:=qdw [] (allRows p.1++qi4 p.2 (qQx p))
def aft (x:qh L.ss) (y:qh L.hs) (s:L.σ) (K:Exit→List AV→q9→Nat→Option R):Exit→List AV→q9→Nat→Option R :=
 qQg L.D L.M 64 (qSN (L.mid x y s)) (qQx (L.mid x y s)) (L.mid x y s).2 K
def outs (x:qh L.ss) (y:qh L.hs) (s:L.σ):List AV :=
 let v:=blank L.D L.M (L.vals x y s)
 v.map (·.ren (qpK (qdw [] (allRows v++qj7 (below 32 (L.heap x y s))))) (qgv 32))
def qnQ (x:qh L.ss) (y:qh L.hs) (s:L.σ):q9 :=
 qde (·.ren (qpK (qdw [] (allRows (blank L.D L.M (L.vals x y s))++qj7 (below 32 (L.heap x y s))))) (qgv 32)) (below 32 (L.heap x y s))
def res (x:qh L.ss) (y:qh L.hs):Option (Nat×L.σ):=qeK (L.turn x y) (L.fuel x y) (L.x0 x y)
def toT:qsc:={M:=L.M,T:=L.T,D:=L.D,ss:=L.ss,hs:=L.hs,F:=fun x y K=>match L.res x y with
 |none=>none
 |some p=>qnT L.es p.1 fun e=>K e (L.outs x y p.2) (L.qnQ x y p.2)}
end LoopN
theorem qwt {α:Type} {k k':Exit→Option α} (h:∀e,k e=k' e):∀(es:List Exit) (i:Nat),qnT es i k=qnT es i k'
 |[],_=>rfl
 |[e],_=>h e
 |e::e'::l,i=>by simp only[qnT,h,qwt h (e'::l)]
theorem qAq {L:LoopN} {step:Step} (x:qh L.ss) (y:qh L.hs)
  (ht:∀s m K,qq9 L.D L.M step (m+1) (L.vals x y s) (L.heap x y s) 64 K =
   (L.turn x y s).run fun p=>match p with
    | .on s'=>qq9 L.D L.M step m (L.vals x y s') (L.heap x y s') 64 (L.aft x y s' K)
    | .out c s'=>qnT L.es c fun e=>K e (L.outs x y s') (L.qnQ x y s') 64)
  (ha:∀s s' K e,L.aft x y s K e (L.outs x y s') (L.qnQ x y s') 64=K e (L.outs x y s') (L.qnQ x y s') 64) :
  ∀(n:Nat) (s:L.σ) (p:Nat×L.σ) (K:Exit→List AV→q9→Nat→Option R),qeK (L.turn x y) n s=some p →
   qq9 L.D L.M step n (L.vals x y s) (L.heap x y s) 64 K=qnT L.es p.1 fun e=>K e (L.outs x y p.2) (L.qnQ x y p.2) 64
 |0,_,_,_,hn=>by cases hn
 |n+1,s,p,K,hn=>by
  rw[ht,PO.qnw]
  simp only[qeK] at hn
  cases e:(L.turn x y s).val with
  |none=>rw[e] at hn;cases hn
  |some l =>
   rw[e] at hn
   cases l with
   |on s'=>exact(qAq x y ht ha n s' p _ hn).trans (qwt (fun e=>ha s' p.2 K e) _ _)
   |out c s'=>cases hn;rfl
theorem Good.loopN {C:Ctx} (h:Good C) {f:FuncId} {r:Nat} (L:LoopN) (d unroll:Nat) (h1:qrn C.P f r=true)
  (hp:∀x y,L.put x y (L.x0 x y)=(x,y))
  (ht:∀x y s m K,qq9 L.D L.M (qqZ C (evF C qd7 unroll d) qd7 f (qj2 C.P f) unroll (qpc C.P f r) L.M L.T) (m+1) (L.vals x y s) (L.heap x y s) 64 K =
   (L.turn x y s).run fun p=>match p with
    | .on s'=>qq9 L.D L.M (qqZ C (evF C qd7 unroll d) qd7 f (qj2 C.P f) unroll (qpc C.P f r) L.M L.T) m (L.vals x y s') (L.heap x y s') 64 (L.aft x y s' K)
    | .out c s'=>qnT L.es c fun e=>K e (L.outs x y s') (L.qnQ x y s') 64)
  (ha:∀x y s s' K e,L.aft x y s K e (L.outs x y s') (L.qnQ x y s') 64=K e (L.outs x y s') (L.qnQ x y s') 64):Good (C.addLoop f r L.toT.toLoop):=by
 refine h.loop (L:=L.toT) d unroll h1 ?_
 intro(x:qh L.ss) (y:qh L.hs) K r' hF
 change (match qeK (L.turn x y) (L.fuel x y) (L.x0 x y) with
  |none=>none
  |some p=>qnT L.es p.1 fun e=>K e (L.outs x y p.2) (L.qnQ x y p.2) 64)=some r' at hF
 refine⟨L.fuel x y,?_⟩
 cases hr:qeK (L.turn x y) (L.fuel x y) (L.x0 x y) with
 |none=>rw[hr] at hF;cases hF
 |some p =>
  rw[hr] at hF
  have:=qAq x y (ht x y) (ha x y) _ _ p K hr
  simp only[LoopN.vals,LoopN.heap] at this
  rw[hp] at this
  exact this.trans hF
theorem Good.cutN {C:Ctx} (h:Good C) {f:FuncId} {k:Nat} (L:LoopN) (d unroll:Nat) (h1:qs1 C.P f k=true) (hf:∀x y,L.fuel x y=1)
  (ht:∀x y K,qHG L.D L.M (qqZ C (evF C qd7 unroll d) qd7 f (qj2 C.P f) unroll (qrE C.P f k) L.M L.T) (qe9 L.ss x) (enum 0 (qe9 L.hs y)) 64 K =
   (L.turn x y (L.x0 x y)).run fun p=>match p with
    | .on _=>none
    | .out c s'=>qnT L.es c fun e=>K e (L.outs x y s') (L.qnQ x y s') 64):Good (C.addCut f k L.toT.toLoop):=by
 refine h.cut (L:=L.toT) d unroll h1 ?_
 intro(x:qh L.ss) (y:qh L.hs) K r' hF
 change (match qeK (L.turn x y) (L.fuel x y) (L.x0 x y) with
  |none=>none
  |some p=>qnT L.es p.1 fun e=>K e (L.outs x y p.2) (L.qnQ x y p.2) 64)=some r' at hF
 rw[hf] at hF
 refine(ht x y K).trans ?_
 rw[PO.qnw]
 cases e:(L.turn x y (L.x0 x y)).val with
 |none=>simp only[qeK,e] at hF;cases hF
 |some l =>
  simp only[qeK,e] at hF
  cases l with
  |on s'=>cases hF
  |out c s'=>exact hF
theorem Good.fnP {C:Ctx} (h:Good C) {f:FuncId} {ts:List Ty} (s:Sh) (T:qd ts→PO s.den) (G:qd ts→Bool) (V:qd ts→s.den) (d unroll:Nat) (hb:qkJ C.P f=true)
  (hw:∀x,evF C qd7 unroll d f (avs ts x) [] 64 fin=(T x).run fun v=>some (⟨s,v⟩,[],64)) (hg:∀x,G x=true→(T x).val=some (V x)):Good (C.addPlain f (qy ts G s V)):=by
 refine h.fn d unroll hb (fun x hx=>?_)
 rw[hw,PO.qnw,hg x hx]
 rfl
end Go.Av
end
