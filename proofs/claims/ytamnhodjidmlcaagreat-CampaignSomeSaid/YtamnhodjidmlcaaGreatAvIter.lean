/- Loops and functions by what they come to: trees of tests that may fail, and loops by what one turn does. -/
import Derived.Test.YtamnhodjidmlcaaGreatAvBits
namespace Go.Av
open Go
abbrev w64 (n:Int):Int:=IntKind.i64.wrap n
abbrev qh {α:Type} (l:List α):Int:=((List.length l:Nat):Int)
abbrev u8I (b:UInt8):Int:=((UInt8.toNat b:Nat):Int)
inductive PO (α:Type):Type 1 where
 |ret (a:α)
 |fail
 |ite (b:Bool) (t e:PO α)
 |opt {β:Type} (o:Option β) (k:β→PO α)
namespace PO
def run {α γ:Type} (k:α→Option γ):PO α→Option γ
 | .ret a=>k a
 | .fail=>none
 | .ite b t e=>bif b then t.run k else e.run k
 | .opt o f=>match o with
  |none=>none
  |some x=>(f x).run k
def val {α:Type}:PO α→Option α
 | .ret a=>some a
 | .fail=>none
 | .ite b t e=>bif b then t.val else e.val
 | .opt o f=>match o with
  |none=>none
  |some x=>(f x).val
theorem qpS {α γ:Type} (k:α→Option γ):∀t:PO α,t.run k=t.val.bind k
 | .ret _=>rfl
 | .fail=>rfl
 | .ite b t e=>by
  simp only[run,val,qpS k t,qpS k e]
  cases b<;>rfl
 | .opt o f=>by
  cases o with
  |none=>rfl
  |some x=>simp only[run,val,qpS k (f x)]
def qQ {α:Type} (d:α) (t:PO α):α:=t.val.getD d
theorem qb7 {α:Type} (d:α) {t:PO α} (h:t.val.isSome=true):t.val=some (t.qQ d):=by
 unfold qQ
 cases e:t.val with
 |none=>rw[e] at h;cases h
 |some a=>rfl
def sure {α:Type}:PO α→Prop
 | .ret _=>True
 | .fail=>False
 | .ite _ t e=>t.sure∧e.sure
 | .opt _ _=>False
theorem qbS {α:Type} (d:α):∀{t:PO α},t.sure→t.val=some (t.qQ d)
 | .ret _,_=>rfl
 | .fail,h=>h.elim
 | .ite b t e,h=>by
  cases b
  ·exact qbS (t:=e) d h.2
  ·exact qbS (t:=t) d h.1
 | .opt _ _,h=>h.elim
def qxz {α:Type}:PO α→Prop
 | .ret _=>True
 | .fail=>False
 | .ite b t e=>(b=true→t.qxz)∧(b=false→e.qxz)
 | .opt _ _=>False
theorem qrr {α:Type} (d:α):∀{t:PO α},t.qxz→t.val=some (t.qQ d)
 | .ret _,_=>rfl
 | .fail,h=>h.elim
 | .ite b t e,h=>by
  cases b
  ·exact qrr (t:=e) d (h.2 rfl)
  ·exact qrr (t:=t) d (h.1 rfl)
 | .opt _ _,h=>h.elim
def bind {α β:Type} (t:PO α) (f:α→PO β):PO β :=
 match t with
 | .ret a=>f a
 | .fail=>.fail
 | .ite b t e=>.ite b (t.bind f) (e.bind f)
 | .opt o k=>.opt o fun x=>(k x).bind f
end PO
inductive TL (σ:Type) where
 |on (s:σ)
 |out (c:Nat) (s:σ)
def qcF {σ:Type} (turn:σ→PO (TL σ)):Nat→σ→Option (Nat×σ)
 |0,_=>none
 |n+1,s=>match (turn s).val with
  |none=>none
  |some (.on s')=>qcF turn n s'
  |some (.out c s')=>some (c,s')
theorem qcx {σ:Type} {turn:σ→PO (TL σ)} {n:Nat} {s s':σ} (h:(turn s).val=some (.on s')):qcF turn (n+1) s=qcF turn n s':=by
 simp only[qcF,h]
theorem qbg {σ:Type} {turn:σ→PO (TL σ)} {n:Nat} {s s':σ} {c:Nat} (h:(turn s).val=some (.out c s')):qcF turn (n+1) s=some (c,s'):=by
 simp only[qcF,h]
def way (i:Nat):Bool:=Nat.beq i 0
def prd (i:Nat):Nat:=i-1
def qp8 {α:Type}:List Exit→Nat→(Exit→Option α)→Option α
 |[],_,_=>none
 |[e],_,k=>k e
 |e::e'::l,i,k=>bif way i then k e else qp8 (e'::l) (prd i) k
structure LoopN where
 M:List Nat
 T:List Nat
 D:List Nat
 ss:List Sh
 hs:List Sh
 es:List Exit
 σ:Type
 x0:ql ss→ql hs→σ
 put:ql ss→ql hs→σ→ql ss×ql hs
 turn:ql ss→ql hs→σ→PO (TL σ)
 fuel:ql ss→ql hs→Nat
namespace LoopN
variable (L:LoopN)
abbrev vals (x:ql L.ss) (y:ql L.hs) (s:L.σ):List AV:=qgR L.ss (L.put x y s).1
abbrev heap (x:ql L.ss) (y:ql L.hs) (s:L.σ):qbk:=enum 0 (qgR L.hs (L.put x y s).2)
def mid (x:ql L.ss) (y:ql L.hs) (s:L.σ):List AV×qbk :=
 let h:=below 32 (L.heap x y s)
 let ts:=qee [] (allRows (L.vals x y s)++qmf h)
 ((L.vals x y s).map (·.ren (qrH ts) (qhO 32)),qdT (·.ren (qrH ts) (qhO 32)) h)
def qRP (p:List AV×qbk):List Nat:=reach p.2 4 (qee [] ((qnN p.1).filter (qk4 p.2)))
def qTx (p:List AV×qbk):List Nat:=qee [] (allRows p.1++qlz p.2 (qRP p))
def aft (x:ql L.ss) (y:ql L.hs) (s:L.σ) (K:Exit→List AV→qbk→Nat→Option R):Exit→List AV→qbk→Nat→Option R :=
 qSx L.D L.M 64 (qTx (L.mid x y s)) (qRP (L.mid x y s)) (L.mid x y s).2 K
def outs (x:ql L.ss) (y:ql L.hs) (s:L.σ):List AV :=
 let v:=blank L.D L.M (L.vals x y s)
 v.map (·.ren (qrH (qee [] (allRows v++qmf (below 32 (L.heap x y s))))) (qhO 32))
def qqL (x:ql L.ss) (y:ql L.hs) (s:L.σ):qbk :=
 qdT (·.ren (qrH (qee [] (allRows (blank L.D L.M (L.vals x y s))++qmf (below 32 (L.heap x y s))))) (qhO 32)) (below 32 (L.heap x y s))
def res (x:ql L.ss) (y:ql L.hs):Option (Nat×L.σ):=qcF (L.turn x y) (L.fuel x y) (L.x0 x y)
def toT:que:={M:=L.M,T:=L.T,D:=L.D,ss:=L.ss,hs:=L.hs,F:=fun x y K=>match L.res x y with
 |none=>none
 |some p=>qp8 L.es p.1 fun e=>K e (L.outs x y p.2) (L.qqL x y p.2)}
end LoopN
theorem qyw {α:Type} {k k':Exit→Option α} (h:∀e,k e=k' e):∀(es:List Exit) (i:Nat),qp8 es i k=qp8 es i k'
 |[],_=>rfl
 |[e],_=>h e
 |e::e'::l,i=>by simp only[qp8,h,qyw h (e'::l)]
theorem qDS {L:LoopN} {step:Step} (x:ql L.ss) (y:ql L.hs)
  (ht:∀s m K,qsK L.D L.M step (m+1) (L.vals x y s) (L.heap x y s) 64 K =
   (L.turn x y s).run fun p=>match p with
    | .on s'=>qsK L.D L.M step m (L.vals x y s') (L.heap x y s') 64 (L.aft x y s' K)
    | .out c s'=>qp8 L.es c fun e=>K e (L.outs x y s') (L.qqL x y s') 64)
  (ha:∀s s' K e,L.aft x y s K e (L.outs x y s') (L.qqL x y s') 64=K e (L.outs x y s') (L.qqL x y s') 64) :
  ∀(n:Nat) (s:L.σ) (p:Nat×L.σ) (K:Exit→List AV→qbk→Nat→Option R),qcF (L.turn x y) n s=some p →
   qsK L.D L.M step n (L.vals x y s) (L.heap x y s) 64 K=qp8 L.es p.1 fun e=>K e (L.outs x y p.2) (L.qqL x y p.2) 64
 |0,_,_,_,hn=>by cases hn
 |n+1,s,p,K,hn=>by
  rw[ht,PO.qpS]
  simp only[qcF] at hn
  cases e:(L.turn x y s).val with
  |none=>rw[e] at hn;cases hn
  |some l =>
   rw[e] at hn
   cases l with
   |on s'=>exact(qDS x y ht ha n s' p _ hn).trans (qyw (fun e=>ha s' p.2 K e) _ _)
   |out c s'=>cases hn;rfl
theorem Good.loopN {C:Ctx} (h:Good C) {f:FuncId} {r:Nat} (L:LoopN) (d unroll:Nat) (h1:qtk C.P f r=true)
  (hp:∀x y,L.put x y (L.x0 x y)=(x,y))
  (ht:∀x y s m K,qsK L.D L.M (qs7 C (evF C qeQ unroll d) qeQ f (qmn C.P f) unroll (qrw C.P f r) L.M L.T) (m+1) (L.vals x y s) (L.heap x y s) 64 K =
   (L.turn x y s).run fun p=>match p with
    | .on s'=>qsK L.D L.M (qs7 C (evF C qeQ unroll d) qeQ f (qmn C.P f) unroll (qrw C.P f r) L.M L.T) m (L.vals x y s') (L.heap x y s') 64 (L.aft x y s' K)
    | .out c s'=>qp8 L.es c fun e=>K e (L.outs x y s') (L.qqL x y s') 64)
  (ha:∀x y s s' K e,L.aft x y s K e (L.outs x y s') (L.qqL x y s') 64=K e (L.outs x y s') (L.qqL x y s') 64):Good (C.addLoop f r L.toT.toLoop):=by
 refine h.loop (L:=L.toT) d unroll h1 ?_
 intro(x:ql L.ss) (y:ql L.hs) K r' hF
 change (match qcF (L.turn x y) (L.fuel x y) (L.x0 x y) with
  |none=>none
  |some p=>qp8 L.es p.1 fun e=>K e (L.outs x y p.2) (L.qqL x y p.2) 64)=some r' at hF
 refine⟨L.fuel x y,?_⟩
 cases hr:qcF (L.turn x y) (L.fuel x y) (L.x0 x y) with
 |none=>rw[hr] at hF;cases hF
 |some p =>
  rw[hr] at hF
  have:=qDS x y (ht x y) (ha x y) _ _ p K hr
  simp only[LoopN.vals,LoopN.heap] at this
  rw[hp] at this
  exact this.trans hF
theorem Good.cutN {C:Ctx} (h:Good C) {f:FuncId} {k:Nat} (L:LoopN) (d unroll:Nat) (h1:quM C.P f k=true) (hf:∀x y,L.fuel x y=1)
  (ht:∀x y K,qLC L.D L.M (qs7 C (evF C qeQ unroll d) qeQ f (qmn C.P f) unroll (qty C.P f k) L.M L.T) (qgR L.ss x) (enum 0 (qgR L.hs y)) 64 K =
   (L.turn x y (L.x0 x y)).run fun p=>match p with
    | .on _=>none
    | .out c s'=>qp8 L.es c fun e=>K e (L.outs x y s') (L.qqL x y s') 64):Good (C.addCut f k L.toT.toLoop):=by
 refine h.cut (L:=L.toT) d unroll h1 ?_
 intro(x:ql L.ss) (y:ql L.hs) K r' hF
 change (match qcF (L.turn x y) (L.fuel x y) (L.x0 x y) with
  |none=>none
  |some p=>qp8 L.es p.1 fun e=>K e (L.outs x y p.2) (L.qqL x y p.2) 64)=some r' at hF
 rw[hf] at hF
 refine(ht x y K).trans ?_
 rw[PO.qpS]
 cases e:(L.turn x y (L.x0 x y)).val with
 |none=>simp only[qcF,e] at hF;cases hF
 |some l =>
  simp only[qcF,e] at hF
  cases l with
  |on s'=>cases hF
  |out c s'=>exact hF
theorem Good.fnP {C:Ctx} (h:Good C) {f:FuncId} {ts:List Ty} (s:Sh) (T:qc ts→PO s.den) (G:qc ts→Bool) (V:qc ts→s.den) (d unroll:Nat) (hb:qnd C.P f=true)
  (hw:∀x,evF C qeQ unroll d f (avs ts x) [] 64 fin=(T x).run fun v=>some (⟨s,v⟩,[],64)) (hg:∀x,G x=true→(T x).val=some (V x)):Good (C.addPlain f (qp ts G s V)):=by
 refine h.fn d unroll hb (fun x hx=>?_)
 rw[hw,PO.qpS,hg x hx]
 rfl
end Go.Av
