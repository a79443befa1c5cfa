/- Texts of the proof, one behind the other. -/
import Derived.Test.YtealbjacocgjcaaGreatGateFaultK1
section
namespace Go.Av
open Go
inductive Kind where
 |old
 |far (used:Nat)
 |box (id:Nat)
 |row (id used:Nat)
def Kind.fixed:Kind→Bool
 | .old | .far _=>true
 |_=>false
abbrev Kinds:=Nat→Kind
def qwi (k:Kind) (o:Nat):Prop :=
 match k with
 | .old=>True
 | .far u=>o<u
 | .box _=>False
 | .row _ u=>o<u
def qcY (K:Kinds) (b o:Nat):Prop:=qwi (K b) o
def At (w:World) (K:Kinds) (a:Addr) (cs:List Value):Prop :=
 ∀j v,cs[j]?=some v→a.spot=none∧w.cell? ⟨a.block,a.off+j,none⟩=some v∧qcY K a.block (a.off+j)
def RL {α:Type} (R:α→List Value→Prop):List α→List Value→Prop
 |[],cs=>cs=[]
 |x::xs,cs=>∃c1 c2,cs=c1++c2∧R x c1∧RL R xs c2
def RT (w:World) (K:Kinds):(t:Ty)→t.den→List Value→Prop
 | .unit,_,cs=>cs=[]
 | .pair a b,x,cs=>∃c1 c2,cs=c1++c2∧RT w K a x.1 c1∧RT w K b x.2 c2
 | .arr n e,x,cs=>List.length x=n∧RL (RT w K e) x cs
 | .int k,n,cs=>cs=[.int k n]
 | .bool,b,cs=>cs=[.bool b]
 | .str,s,cs=>cs=[.string ⟨⟨s⟩⟩]
 | .func,f,cs=>cs=[fnVal f]
 | .sl e,xs,cs=>∃A len cap,cs=[.slice A len cap]∧len=List.length xs∧len≤cap∧(A=none→cap=0) ∧
   ∀a,A=some a→∃cc,RL (RT w K e) xs cc∧At w K a cc
def Own (w:World) (K:Kinds) (id sz:Nat) (A:Option Addr) (len cap:Nat):Prop :=
 A=none∨len=cap∨∃a,A=some a∧a.spot=none∧K a.block=.row id (a.off+len*sz) ∧
  ∃arr T,w.heap[a.block]?=some (.cells arr T (0,0))∧a.off+cap*sz≤arr.size
def qdb (w:World) (b n:Nat):Prop:=∃cs T,w.heap[b]?=some (.cells cs T (0,0))∧n≤cs.size
def qhV (w:World) (K:Kinds) (id:Nat) (e:Ty) (x:Nat×Nat) (cs:List Value):Prop :=
 ∃b j cap,cs=[.slice (some ⟨b,j,none⟩) x.2 cap]∧K b=.box id∧b<w.heap.size∧x.2≤cap∧(x.2≠0→j=x.1*e.size)∧qdb w b ((x.1+x.2)*e.size)
def qsD (w:World) (K:Kinds) (id:Nat) (e:Ty) (xs:List (Nat×Nat)) (cs:List Value):Prop :=
 ∃A len cap,cs=[.slice A len cap]∧len=List.length xs∧len≤cap∧(A=none→cap=0) ∧
  ∀a,A=some a→∃cc,RL (qhV w K id e) xs cc∧At w K a cc
def RS (w:World) (K:Kinds):(s:Sh)→s.den→List Value→Prop
 | .ty t,x,cs=>RT w K t x cs
 | .pair a b,x,cs=>∃c1 c2,cs=c1++c2∧RS w K a x.1 c1∧RS w K b x.2 c2
 | .osl id e,xs,cs=>RT w K (.sl e) xs cs∧∀A len cap,cs=[.slice A len cap]→Own w K id e.size A len cap
 | .box id off,_,cs=>∃b,cs=[.pointer (some ⟨b,off,none⟩)]∧K b=.box id∧b<w.heap.size
 | .boxi id off n e,i,cs=>∃b,cs=[.pointer (some ⟨b,off+i*e.size,none⟩)]∧K b=.box id∧b<w.heap.size∧i<n
 | .win id e,x,cs=>∃b j cap,cs=[.slice (some ⟨b,j,none⟩) x.2 cap]∧K b=.box id∧b<w.heap.size∧x.2≤cap∧(x.2≠0→j=x.1*e.size)∧qdb w b ((x.1+x.2)*e.size)
 | .elp id e o,x,cs=>∃b,cs=[.pointer (some ⟨b,x*e.size+o,none⟩)]∧K b=.box id∧b<w.heap.size∧qdb w b ((x+1)*e.size)
 | .mp id,_,cs=>∃b,cs=[.map (some b)]∧K b=.box id∧b<w.heap.size
 | .tsl T id,xs,cs=>∃A n cap,cs=[.slice A n cap]∧((A=none∧n=0∧cap=0∧xs=[])∨∃g cur,A=some ⟨g,0,none⟩∧K g=.row id 0∧w.heap[g]?=some (.cells cur T (0,0)) ∧
   n=List.length xs∧n≤cap∧cap≤maxLen∧cur.size=cap∧cur.toList.take n=List.map (fun x:UInt8=>Value.int .u8 x.toNat) xs)
 | .nbox id,_,cs=>∃p,cs=[.pointer p]∧(p=none∨∃b,p=some ⟨b,0,none⟩∧K b=.box id∧b<w.heap.size)
 | .wsl tag id e,xs,cs=>qsD w K id e xs cs∧∀t A len cap,tag=some t→cs=[.slice A len cap]→Own w K t 1 A len cap
 | .wref id e,x,cs=>∃a cc,cs=[.pointer (some a)]∧qhV w K id e x cc∧At w K a cc
 | .rowc _,_,_=>False
 | .mapc,_,_=>False
 | .tyc _ s,x,cs=>RS w K s x cs
 | .ref t off,x,cs=>∃a cc,cs=[.pointer (some (a.add off))]∧RT w K t x cc∧At w K a cc
 | .fn f caps,x,cs=>∃cc,cs=[.func (.func f) #[] cc.toArray]∧RS w K caps x cc
 | .lit v,_,cs=>cs=[v]∧v.oneCell'=true
 | .tup _,_,_=>False
 | .top,_,cs=>∃c,cs=[c]∧c.oneCell'=true
def R1 (w:World) (K:Kinds) (s:Sh) (x:s.den) (v:Value):Prop :=
 RS w K s x v.cells.toList∧(s.agg=true→∃c,v=.agg c)∧(s.agg=false→∀c,v≠.agg c)
def qjy (w:World) (K:Kinds):(s:Sh)→s.den→List Value→Prop
 | .pair a b,x,v::vs=>R1 w K a x.1 v∧qjy w K b x.2 vs
 | .ty .unit,_,vs=>vs=[]
 |_,_,_=>False
def RV (w:World) (K:Kinds) (a:AV) (v:Value):Prop :=
 match a with
 |⟨.tup s,x⟩=>∃vs,v=.tuple vs∧qjy w K s x vs.toList
 |⟨.top,_⟩=>True
 |⟨s,x⟩=>R1 w K s x v
structure Ext (w:World) (K:Kinds) (w':World) (K':Kinds):Prop where
 os:w'.os=w.os
 tape:w'.tape=w.tape
 output:w'.output=w.output
 size:w.heap.size≤w'.heap.size
 fix:∀b,b<w.heap.size→(K b).fixed=true→K' b=K b∧w'.heap[b]?=w.heap[b]?
 stab:∀b o,b<w.heap.size→qcY K b o→qcY K' b o∧w'.cell? ⟨b,o,none⟩=w.cell? ⟨b,o,none⟩
 box:∀b id,b<w.heap.size→K b=.box id→K' b=.box id
 bsz:∀b id n,b<w.heap.size→K b=.box id→qdb w b n→qdb w' b n
theorem Ext.refl (w:World) (K:Kinds):Ext w K w K :=
 ⟨rfl,rfl,rfl,Nat.le_refl _,fun _ _ _=>⟨rfl,rfl⟩,fun _ _ _ h=>⟨h,rfl⟩,fun _ _ _ h=>h,fun _ _ _ _ _ h=>h⟩
theorem Ext.trans {w w' w'':World} {K K' K'':Kinds} (h:Ext w K w' K') (g:Ext w' K' w'' K''):Ext w K w'' K'' where
 os:=g.os.trans h.os
 tape:=g.tape.trans h.tape
 output:=g.output.trans h.output
 size:=Nat.le_trans h.size g.size
 fix:=fun b hb hk=>by
  obtain⟨h1,h2⟩:=h.fix b hb hk
  obtain⟨g1,g2⟩:=g.fix b (Nat.lt_of_lt_of_le hb h.size) (by rw[h1];exact hk)
  exact⟨g1.trans h1,g2.trans h2⟩
 stab:=fun b o hb hk=>by
  obtain⟨h1,h2⟩:=h.stab b o hb hk
  obtain⟨g1,g2⟩:=g.stab b o (Nat.lt_of_lt_of_le hb h.size) h1
  exact⟨g1,g2.trans h2⟩
 box:=fun b id hb hk=>g.box b id (Nat.lt_of_lt_of_le hb h.size) (h.box b id hb hk)
 bsz:=fun b id n hb hk hn=>g.bsz b id n (Nat.lt_of_lt_of_le hb h.size) (h.box b id hb hk) (h.bsz b id n hb hk hn)
theorem qOU {w:World} {a:Addr} {v:Value} (h:w.cell? a=some v):a.block<w.heap.size:=by
 unfold World.cell? at h
 rcases Nat.lt_or_ge a.block w.heap.size with h' |h'
 ·exact h'
 ·rw[Array.getElem?_eq_none h'] at h;simp at h
def Keep (w:World) (K:Kinds) (w':World) (K':Kinds):Prop :=
 ∀b o,b<w.heap.size→qcY K b o→qcY K' b o∧w'.cell? ⟨b,o,none⟩=w.cell? ⟨b,o,none⟩
theorem At.ext {w w':World} {K K':Kinds} (g:Keep w K w' K') {a:Addr} {cs:List Value} (h:At w K a cs):At w' K' a cs:=by
 intro j v hj
 obtain⟨h1,h2,h3⟩:=h j v hj
 obtain⟨g1,g2⟩:=g a.block (a.off+j) (qOU (a:=⟨a.block,a.off+j,none⟩) h2) h3
 exact⟨h1,g2.trans h2,g1⟩
theorem RL.imp {α:Type} {R R':α→List Value→Prop} (h:∀x cs,R x cs→R' x cs):∀(xs:List α) (cs:List Value),RL R xs cs→RL R' xs cs
 |[],_,hh=>hh
 |_::xs,_,⟨c1,c2,e,h1,h2⟩=>⟨c1,c2,e,h _ _ h1,RL.imp h xs c2 h2⟩
theorem RT.ext {w w':World} {K K':Kinds} (g:Keep w K w' K'):∀(t:Ty) (x:t.den) (cs:List Value),RT w K t x cs→RT w' K' t x cs
 | .unit,_,_,h=>h
 | .pair a b,x,_,⟨c1,c2,e,h1,h2⟩=>⟨c1,c2,e,RT.ext g a x.1 c1 h1,RT.ext g b x.2 c2 h2⟩
 | .arr _ e,x,cs,⟨h1,h2⟩=>⟨h1,RL.imp (RT.ext g e) x cs h2⟩
 | .int _,_,_,h=>h
 | .bool,_,_,h=>h
 | .str,_,_,h=>h
 | .func,_,_,h=>h
 | .sl e,xs,_,⟨A,len,cap,h1,h2,h3,h4,h5⟩ =>
  ⟨A,len,cap,h1,h2,h3,h4,fun a ha=>let⟨cc,k1,k2⟩:=h5 a ha;⟨cc,RL.imp (RT.ext g e) xs cc k1,k2.ext g⟩⟩
theorem RL.length {α:Type} {R:α→List Value→Prop} {n:Nat} (h:∀x cs,R x cs→cs.length=n):∀(xs:List α) (cs:List Value),RL R xs cs→cs.length=xs.length*n
 |[],_,hh=>by cases hh;simp
 |_::xs,_,⟨c1,c2,e,h1,h2⟩=>by
  subst e
  simp only[List.length_append,List.length_cons,h _ _ h1,RL.length h xs c2 h2,Nat.succ_mul]
  omega
theorem RT.length {w:World} {K:Kinds}:∀(t:Ty) (x:t.den) (cs:List Value),RT w K t x cs→cs.length=t.size
 | .unit,_,_,h=>by rw[show _=[] from h];rfl
 | .pair a b,x,_,⟨c1,c2,e,h1,h2⟩=>by subst e;simp[Ty.size,RT.length a x.1 c1 h1,RT.length b x.2 c2 h2]
 | .arr n e,x,cs,⟨h1,h2⟩=>by rw[RL.length (RT.length e) x cs h2,h1];rfl
 | .int _,_,_,h=>by rw[show _=_ from h];rfl
 | .bool,_,_,h=>by rw[show _=_ from h];rfl
 | .str,_,_,h=>by rw[show _=_ from h];rfl
 | .func,_,_,h=>by rw[show _=_ from h];rfl
 | .sl e,xs,_,⟨A,len,cap,h1,_⟩=>by rw[h1];rfl
theorem RS.length {w:World} {K:Kinds}:∀(s:Sh) (x:s.den) (cs:List Value),RS w K s x cs→cs.length=s.size
 | .ty t,x,cs,h=>RT.length t x cs h
 | .pair a b,x,_,⟨c1,c2,e,h1,h2⟩=>by subst e;simp[Sh.size,RS.length a x.1 c1 h1,RS.length b x.2 c2 h2]
 | .osl id e,xs,cs,⟨h1,_⟩=>RT.length (.sl e) xs cs h1
 | .box _ _,_,_,⟨b,h,_⟩=>by rw[h];rfl
 | .boxi _ _ _ _,_,_,⟨b,h,_⟩=>by rw[h];rfl
 | .win _ _,_,_,⟨b,j,cap,h,_⟩=>by rw[h];rfl
 | .elp _ _ _,_,_,⟨b,h,_⟩=>by rw[h];rfl
 | .mp _,_,_,⟨b,h,_⟩=>by rw[h];rfl
 | .nbox _,_,_,⟨p,h,_⟩=>by rw[h];rfl
 | .tsl ..,_,_,⟨A,n,cap,h,_⟩=>by rw[h];rfl
 | .wsl ..,_,_,⟨⟨A,len,cap,h,_⟩,_⟩=>by rw[h];rfl
 | .wref ..,_,_,⟨a,cc,h,_⟩=>by rw[h];rfl
 | .rowc _,_,_,h=>h.elim
 | .mapc,_,_,h=>h.elim
 | .tyc _ s,x,cs,h=>RS.length s x cs h
 | .ref _ _,_,_,⟨a,cc,h,_⟩=>by rw[h];rfl
 | .fn _ _,_,_,⟨cc,h,_⟩=>by rw[h];rfl
 | .lit _,_,_,h=>by rw[h.1];rfl
 | .tup _,_,_,h=>h.elim
 | .top,_,_,⟨c,h,_⟩=>by rw[h];rfl
theorem Ty.size_pos:∀t:Ty,t.agg=false→t.size=1
 | .unit,h=>by cases h
 | .pair ..,h=>by cases h
 | .arr ..,h=>by cases h
 | .int _,_=>rfl
 | .bool,_=>rfl
 | .str,_=>rfl
 | .func,_=>rfl
 | .sl _,_=>rfl
theorem Sh.size_pos:∀s:Sh,s.agg=false→s.size=1
 | .ty t,h=>Ty.size_pos t h
 | .pair ..,h=>by cases h
 | .osl ..,_=>rfl
 | .box ..,_=>rfl
 | .boxi ..,_=>rfl
 | .win ..,_=>rfl
 | .elp ..,_=>rfl
 | .mp _,_=>rfl
 | .nbox _,_=>rfl
 | .tsl ..,_=>rfl
 | .wsl ..,_=>rfl
 | .wref ..,_=>rfl
 | .rowc _,_=>rfl
 | .mapc,_=>rfl
 | .tyc _ s,h=>Sh.size_pos s h
 | .ref ..,_=>rfl
 | .fn ..,_=>rfl
 | .lit _,_=>rfl
 | .tup _,_=>rfl
 | .top,_=>rfl
def Sh.tags:Sh→List Nat
 | .pair a b=>a.tags++b.tags
 | .osl id _=>[id]
 | .tsl _ id=>[id]
 | .wsl (some id) _ _=>[id]
 | .fn _ caps=>caps.tags
 | .tup a=>a.tags
 | .tyc _ a=>a.tags
 |_=>[]
theorem qhV.ext {w w':World} {K K':Kinds} {id j:Nat} {e:Ty} (hs:w.heap.size≤w'.heap.size)
  (hb:∀b,b<w.heap.size→K b=.box id→K' b=.box j∧∀n,qdb w b n→qdb w' b n) {x:Nat×Nat} {cs:List Value}:qhV w K id e x cs→qhV w' K' j e x cs
 |⟨b,q,cap,h,hk,hlt,hc,hq,hn⟩=>⟨b,q,cap,h,(hb b hlt hk).1,Nat.lt_of_lt_of_le hlt hs,hc,hq,(hb b hlt hk).2 _ hn⟩
theorem qsD.ext {w w':World} {K K':Kinds} {id j:Nat} {e:Ty} (g:Keep w K w' K') (hs:w.heap.size≤w'.heap.size)
  (hb:∀b,b<w.heap.size→K b=.box id→K' b=.box j∧∀n,qdb w b n→qdb w' b n) {xs:List (Nat×Nat)} {cs:List Value}:qsD w K id e xs cs→qsD w' K' j e xs cs
 |⟨A,len,cap,h1,h2,h3,h4,h5⟩=>⟨A,len,cap,h1,h2,h3,h4,fun a ha=>let⟨cc,k1,k2⟩:=h5 a ha;⟨cc,RL.imp (fun _ _=>qhV.ext hs hb) xs cc k1,k2.ext g⟩⟩
theorem RS.ext {w w':World} {K K':Kinds} (g:Ext w K w' K') (hr:∀b id u,b<w.heap.size→K b=.row id u→K' b=.row id u∧w'.heap[b]?=w.heap[b]?) :
  ∀(s:Sh) (x:s.den) (cs:List Value),RS w K s x cs→RS w' K' s x cs
 | .ty t,x,cs,h=>RT.ext g.stab t x cs h
 | .pair a b,x,_,⟨c1,c2,e,h1,h2⟩=>⟨c1,c2,e,RS.ext g hr a x.1 c1 h1,RS.ext g hr b x.2 c2 h2⟩
 | .osl id e,xs,cs,⟨h1,h2⟩=>⟨RT.ext g.stab (.sl e) xs cs h1,fun A len cap hc=>by
   rcases h2 A len cap hc with h |h |⟨a,ha,hs,hk,arr,T,hh,hle⟩
   ·exact .inl h
   ·exact .inr (.inl h)
   ·have hlt:a.block<w.heap.size:=by
     rcases Nat.lt_or_ge a.block w.heap.size with h' |h'
     ·exact h'
     ·rw[Array.getElem?_eq_none h'] at hh;cases hh
    obtain⟨k1,k2⟩:=hr _ _ _ hlt hk
    exact .inr (.inr ⟨a,ha,hs,k1,arr,T,k2.trans hh,hle⟩)⟩
 | .box id off,_,_,⟨b,h,hk,hb⟩=>⟨b,h,g.box b id hb hk,Nat.lt_of_lt_of_le hb g.size⟩
 | .boxi id off n e,i,_,⟨b,h,hk,hb,hi⟩=>⟨b,h,g.box b id hb hk,Nat.lt_of_lt_of_le hb g.size,hi⟩
 | .win id e,x,_,⟨b,j,cap,h,hk,hb,hc,hj,hn⟩=>⟨b,j,cap,h,g.box b id hb hk,Nat.lt_of_lt_of_le hb g.size,hc,hj,g.bsz b id _ hb hk hn⟩
 | .elp id e o,x,_,⟨b,h,hk,hb,hn⟩=>⟨b,h,g.box b id hb hk,Nat.lt_of_lt_of_le hb g.size,g.bsz b id _ hb hk hn⟩
 | .mp id,_,_,⟨b,h,hk,hb⟩=>⟨b,h,g.box b id hb hk,Nat.lt_of_lt_of_le hb g.size⟩
 | .tsl T id,xs,_,⟨A,n,cap,h,hp⟩=>⟨A,n,cap,h,hp.imp (fun h=>h) (fun⟨gb,cur,e,hk,hh,rest⟩=>by
   have hlt:gb<w.heap.size:=(Array.getElem?_eq_some_iff.1 hh).1
   obtain⟨k1,k2⟩:=hr gb id 0 hlt hk
   exact⟨gb,cur,e,k1,k2.trans hh,rest⟩)⟩
 | .nbox id,_,_,⟨p,h,hp⟩=>⟨p,h,hp.imp (fun h=>h) (fun⟨b,e,hk,hb⟩=>⟨b,e,g.box b id hb hk,Nat.lt_of_lt_of_le hb g.size⟩)⟩
 | .wsl tag id e,xs,cs,⟨h1,h2⟩=>⟨qsD.ext g.stab g.size (fun b hb hk=>⟨g.box b id hb hk,fun n hn=>g.bsz b id n hb hk hn⟩) h1,fun t A len cap ht hc=>by
   rcases h2 t A len cap ht hc with h |h |⟨a,ha,hs,hk,arr,T,hh,hle⟩
   ·exact .inl h
   ·exact .inr (.inl h)
   ·have hlt:a.block<w.heap.size:=by
     rcases Nat.lt_or_ge a.block w.heap.size with h' |h'
     ·exact h'
     ·rw[Array.getElem?_eq_none h'] at hh;cases hh
    obtain⟨k1,k2⟩:=hr _ _ _ hlt hk
    exact .inr (.inr ⟨a,ha,hs,k1,arr,T,k2.trans hh,hle⟩)⟩
 | .wref id e,x,_,⟨a,cc,h,h1,h2⟩=>⟨a,cc,h,qhV.ext g.size (fun b hb hk=>⟨g.box b id hb hk,fun n hn=>g.bsz b id n hb hk hn⟩) h1,h2.ext g.stab⟩
 | .rowc _,_,_,h=>h.elim
 | .mapc,_,_,h=>h.elim
 | .tyc _ s,x,cs,h=>RS.ext g hr s x cs h
 | .ref t _,x,_,⟨a,cc,h,h1,h2⟩=>⟨a,cc,h,RT.ext g.stab t x cc h1,h2.ext g.stab⟩
 | .fn _ caps,x,_,⟨cc,h,h1⟩=>⟨cc,h,RS.ext g hr caps x cc h1⟩
 | .lit _,_,_,h=>h
 | .tup _,_,_,h=>h.elim
 | .top,_,_,h=>h
theorem RL.one {α:Type} {R:α→List Value→Prop} (h:∀x cs,R x cs→∀c∈cs,c.oneCell'=true):∀(xs:List α) (cs:List Value),RL R xs cs→∀c∈cs,c.oneCell'=true
 |[],_,hh,c,hc=>by rw[show _=[] from hh] at hc;cases hc
 |_::xs,_,⟨c1,c2,e,h1,h2⟩,c,hc=>by
  subst e
  rcases List.mem_append.1 hc with hc |hc
  ·exact h _ _ h1 c hc
  ·exact RL.one h xs c2 h2 c hc
theorem RT.one {w:World} {K:Kinds}:∀(t:Ty) (x:t.den) (cs:List Value),RT w K t x cs→∀c∈cs,c.oneCell'=true
 | .unit,_,_,h,c,hc=>by rw[show _=[] from h] at hc;cases hc
 | .pair a b,x,_,⟨c1,c2,e,h1,h2⟩,c,hc=>by
  subst e
  rcases List.mem_append.1 hc with hc |hc
  ·exact RT.one a x.1 c1 h1 c hc
  ·exact RT.one b x.2 c2 h2 c hc
 | .arr n e,x,cs,⟨_,h2⟩,c,hc=>RL.one (RT.one e) x cs h2 c hc
 | .int _,_,_,h,c,hc=>by rw[show _=_ from h] at hc;simp at hc;subst hc;rfl
 | .bool,_,_,h,c,hc=>by rw[show _=_ from h] at hc;simp at hc;subst hc;rfl
 | .str,_,_,h,c,hc=>by rw[show _=_ from h] at hc;simp at hc;subst hc;rfl
 | .func,f,_,h,c,hc=>by rw[show _=_ from h] at hc;simp at hc;subst hc;cases f<;>rfl
 | .sl e,xs,_,⟨A,len,cap,h1,_⟩,c,hc=>by rw[h1] at hc;simp at hc;subst hc;rfl
theorem RS.one {w:World} {K:Kinds}:∀(s:Sh) (x:s.den) (cs:List Value),RS w K s x cs→∀c∈cs,c.oneCell'=true
 | .ty t,x,cs,h,c,hc=>RT.one t x cs h c hc
 | .pair a b,x,_,⟨c1,c2,e,h1,h2⟩,c,hc=>by
  subst e
  rcases List.mem_append.1 hc with hc |hc
  ·exact RS.one a x.1 c1 h1 c hc
  ·exact RS.one b x.2 c2 h2 c hc
 | .osl id e,xs,cs,⟨h1,_⟩,c,hc=>RT.one (.sl e) xs cs h1 c hc
 | .box _ _,_,_,⟨b,h,_⟩,c,hc=>by rw[h] at hc;simp at hc;subst hc;rfl
 | .boxi _ _ _ _,_,_,⟨b,h,_⟩,c,hc=>by rw[h] at hc;simp at hc;subst hc;rfl
 | .win _ _,_,_,⟨b,j,cap,h,_⟩,c,hc=>by rw[h] at hc;simp at hc;subst hc;rfl
 | .elp _ _ _,_,_,⟨b,h,_⟩,c,hc=>by rw[h] at hc;simp at hc;subst hc;rfl
 | .mp _,_,_,⟨b,h,_⟩,c,hc=>by rw[h] at hc;simp at hc;subst hc;rfl
 | .nbox _,_,_,⟨p,h,_⟩,c,hc=>by rw[h] at hc;simp at hc;subst hc;rfl
 | .tsl ..,_,_,⟨A,n,cap,h,_⟩,c,hc=>by rw[h] at hc;simp at hc;subst hc;rfl
 | .wsl ..,_,_,⟨⟨A,len,cap,h,_⟩,_⟩,c,hc=>by rw[h] at hc;simp at hc;subst hc;rfl
 | .wref ..,_,_,⟨a,cc,h,_⟩,c,hc=>by rw[h] at hc;simp at hc;subst hc;rfl
 | .rowc _,_,_,h,_,_=>h.elim
 | .mapc,_,_,h,_,_=>h.elim
 | .tyc _ s,x,cs,h,c,hc=>RS.one s x cs h c hc
 | .ref _ _,_,_,⟨a,cc,h,_⟩,c,hc=>by rw[h] at hc;simp at hc;subst hc;rfl
 | .fn _ _,_,_,⟨cc,h,_⟩,c,hc=>by rw[h] at hc;simp at hc;subst hc;rfl
 | .lit _,_,_,h,c,hc=>by rw[h.1] at hc;simp at hc;subst hc;exact h.2
 | .tup _,_,_,h,_,_=>h.elim
 | .top,_,_,⟨c',h,h'⟩,c,hc=>by rw[h] at hc;simp at hc;subst hc;exact h'
theorem qiN {w:World} {K:Kinds} {a b:AV} {c1 c2:List Value} (h1:RS w K a.sh a.v c1) (h2:RS w K b.sh b.v c2) :
  RS w K (AV.qkq a b).sh (AV.qkq a b).v (c1++c2):=by
 obtain⟨s,x⟩:=a
 obtain⟨t,y⟩:=b
 cases s<;>cases t<;>exact⟨c1,c2,rfl,h1,h2⟩
theorem qiH (a b:AV):(AV.qkq a b).sh.agg=true:=by
 obtain⟨s,x⟩:=a
 obtain⟨t,y⟩:=b
 cases s<;>cases t<;>rfl
theorem qMt {v:Value} (h:nilFn v=true):v=.nilFunc:=by
 unfold nilFn at h
 split at h
 ·rfl
 ·cases h
theorem qIV {s:Sh} (h:s.noCaps=true):s=.ty .unit:=by
 unfold Sh.noCaps at h
 split at h
 ·rfl
 ·cases h
theorem qrs {v:Value} (h:qt0 v=true):v=.slice none 0 0:=by
 unfold qt0 at h
 split at h
 ·rfl
 ·cases h
theorem qeO {w:World} {K:Kinds}:∀(s:Sh) (x:s.den) (t:Ty) (y:t.den) (cs:List Value),s.as x t=some y→RS w K s x cs→RT w K t y cs:=by
 intro s
 induction s with
 |ty s =>
  intro x t y cs h hr
  simp only[Sh.as] at h
  split at h
  ·rename_i e _
   subst e
   cases h
   exact hr
  ·cases h
 |pair a b iha ihb =>
  intro x t y cs h hr
  cases t<;>simp only[Sh.as] at h<;>try cases h
  rename_i c d
  obtain⟨c1,c2,e,h1,h2⟩:=hr
  split at h
  ·rename_i y1 y2 e1 e2
   cases h
   exact⟨c1,c2,e,iha _ _ _ _ e1 h1,ihb _ _ _ _ e2 h2⟩
  ·cases h
 |osl id e =>
  intro x t y cs h hr
  cases t<;>simp only[Sh.as] at h<;>try cases h
  split at h
  ·rename_i e' _
   subst e'
   cases h
   exact hr.1
  ·cases h
 |lit v =>
  intro x t y cs h hr
  obtain⟨hr,_⟩:=hr
  subst hr
  cases t<;>simp only[Sh.as] at h<;>try cases h
  ·split at h
   ·rename_i hn
    cases h
    rw[qMt hn]
    rfl
   ·cases h
  ·split at h
   ·rename_i hn
    cases h
    rw[qrs hn]
    exact⟨none,0,0,rfl,rfl,Nat.le_refl _,fun _=>rfl,fun a ha=>by cases ha⟩
   ·cases h
 |box id off=>intro x t y cs h hr;cases t<;>cases h
 |boxi=>intro x t y cs h hr;cases t<;>cases h
 |win=>intro x t y cs h hr;cases t<;>cases h
 |elp=>intro x t y cs h hr;cases t<;>cases h
 |mp=>intro x t y cs h hr;cases t<;>cases h
 |nbox=>intro x t y cs h hr;cases t<;>cases h
 |tsl=>intro x t y cs h hr;cases t<;>cases h
 |wsl=>intro x t y cs h hr;cases t<;>cases h
 |wref=>intro x t y cs h hr;cases t<;>cases h
 |rowc=>intro x t y cs h hr;cases t<;>cases h
 |mapc=>intro x t y cs h hr;cases t<;>cases h
 |tyc=>intro x t y cs h hr;cases t<;>cases h
 |ref=>intro x t y cs h hr;cases t<;>cases h
 |fn f caps =>
  intro x t y cs h hr
  cases t<;>simp only[Sh.as] at h<;>try cases h
  split at h
  ·rename_i hn
   cases h
   cases qIV hn
   obtain⟨cc,h1,h2⟩:=hr
   rw[h1,show cc=[] from h2]
   rfl
  ·cases h
 |tup=>intro x t y cs h hr;cases t<;>cases h
 |top=>intro x t y cs h hr;cases t<;>cases h
theorem RS.ren {w w':World} {K K':Kinds} {ρ σ:Nat→Option Nat} (g:Keep w K w' K') (hs:w.heap.size≤w'.heap.size)
  (hr:∀b id u j,b<w.heap.size→K b=.row id u→ρ id=some j→K' b=.row j u∧w'.heap[b]?=w.heap[b]?)
  (hb:∀b id j,b<w.heap.size→K b=.box id→σ id=some j→K' b=.box j∧∀n,qdb w b n→qdb w' b n) :
  ∀(s:Sh) (x:s.den) (cs:List Value),RS w K s x cs→RS w' K' (s.ren ρ σ x).sh (s.ren ρ σ x).v cs
 | .ty t,x,cs,h=>RT.ext g t x cs h
 | .pair a b,x,_,⟨c1,c2,e,h1,h2⟩=>by
  subst e
  exact qiN (RS.ren g hs hr hb a x.1 c1 h1) (RS.ren g hs hr hb b x.2 c2 h2)
 | .osl id e,xs,cs,⟨h1,h2⟩=>by
  have h1':=RT.ext g (.sl e) xs cs h1
  simp only[Sh.ren]
  cases hid:ρ id with
  |none=>exact h1'
  |some j =>
   refine⟨h1',fun A len cap hc=>?_⟩
   rcases h2 A len cap hc with h |h |⟨a,ha,hsp,hk,arr,T,hh,hle⟩
   ·exact .inl h
   ·exact .inr (.inl h)
   ·have hlt:a.block<w.heap.size:=by
     rcases Nat.lt_or_ge a.block w.heap.size with h' |h'
     ·exact h'
     ·rw[Array.getElem?_eq_none h'] at hh;cases hh
    obtain⟨k1,k2⟩:=hr _ _ _ _ hlt hk hid
    exact .inr (.inr ⟨a,ha,hsp,k1,arr,T,k2.trans hh,hle⟩)
 | .box id off,_,_,⟨b,h,hk,hlt⟩=>by
  simp only[Sh.ren]
  cases hid:σ id with
  |none=>exact⟨_,h,rfl⟩
  |some j=>exact⟨b,h,(hb b id j hlt hk hid).1,Nat.lt_of_lt_of_le hlt hs⟩
 | .boxi id off n e,i,_,⟨b,h,hk,hlt,hi⟩=>by
  simp only[Sh.ren]
  cases hid:σ id with
  |none=>exact⟨_,h,rfl⟩
  |some j=>exact⟨b,h,(hb b id j hlt hk hid).1,Nat.lt_of_lt_of_le hlt hs,hi⟩
 | .win id e,x,_,⟨b,q,cap,h,hk,hlt,hc,hq,hn⟩=>by
  simp only[Sh.ren]
  cases hid:σ id with
  |none=>exact⟨_,h,rfl⟩
  |some j=>exact⟨b,q,cap,h,(hb b id j hlt hk hid).1,Nat.lt_of_lt_of_le hlt hs,hc,hq,(hb b id j hlt hk hid).2 _ hn⟩
 | .elp id e o,x,_,⟨b,h,hk,hlt,hn⟩=>by
  simp only[Sh.ren]
  cases hid:σ id with
  |none=>exact⟨_,h,rfl⟩
  |some j=>exact⟨b,h,(hb b id j hlt hk hid).1,Nat.lt_of_lt_of_le hlt hs,(hb b id j hlt hk hid).2 _ hn⟩
 | .mp id,_,_,⟨b,h,hk,hlt⟩=>by
  simp only[Sh.ren]
  cases hid:σ id with
  |none=>exact⟨_,h,rfl⟩
  |some j=>exact⟨b,h,(hb b id j hlt hk hid).1,Nat.lt_of_lt_of_le hlt hs⟩
 | .tsl T id,xs,_,⟨A,n,cap,h,hp⟩=>by
  simp only[Sh.ren]
  cases hid:ρ id with
  |none=>exact⟨_,h,rfl⟩
  |some j =>
   refine⟨A,n,cap,h,hp.imp (fun h=>h) (fun⟨gb,cur,e,hk,hh,rest⟩=>?_)⟩
   have hlt:gb<w.heap.size:=(Array.getElem?_eq_some_iff.1 hh).1
   obtain⟨k1,k2⟩:=hr gb id 0 j hlt hk hid
   exact⟨gb,cur,e,k1,k2.trans hh,rest⟩
 | .nbox id,_,_,⟨p,h,hp⟩=>by
  simp only[Sh.ren]
  cases hid:σ id with
  |none=>exact⟨_,h,rfl⟩
  |some j=>exact⟨p,h,hp.imp (fun h=>h) (fun⟨b,e,hk,hlt⟩=>⟨b,e,(hb b id j hlt hk hid).1,Nat.lt_of_lt_of_le hlt hs⟩)⟩
 | .wsl tag id e,xs,cs,⟨h1,h2⟩=>by
  simp only[Sh.ren]
  cases hid:σ id with
  |none=>obtain⟨A,len,cap,h,_⟩:=h1;exact⟨_,h,rfl⟩
  |some j =>
   refine⟨qsD.ext g hs (fun b hlt hk=>hb b id j hlt hk hid) h1,fun t A len cap ht hc=>?_⟩
   cases tag with
   |none=>cases ht
   |some t0 =>
    rcases h2 t0 A len cap rfl hc with h |h |⟨a,ha,hsp,hk,arr,T,hh,hle⟩
    ·exact .inl h
    ·exact .inr (.inl h)
    ·have hlt:a.block<w.heap.size:=by
      rcases Nat.lt_or_ge a.block w.heap.size with h' |h'
      ·exact h'
      ·rw[Array.getElem?_eq_none h'] at hh;cases hh
     obtain⟨k1,k2⟩:=hr _ _ _ _ hlt hk ht
     exact .inr (.inr ⟨a,ha,hsp,k1,arr,T,k2.trans hh,hle⟩)
 | .wref id e,x,_,⟨a,cc,h,h1,h2⟩=>by
  simp only[Sh.ren]
  cases hid:σ id with
  |none=>exact⟨_,h,rfl⟩
  |some j=>exact⟨a,cc,h,qhV.ext hs (fun b hlt hk=>hb b id j hlt hk hid) h1,h2.ext g⟩
 | .rowc _,_,_,h=>h.elim
 | .mapc,_,_,h=>h.elim
 | .tyc _ s,x,cs,h=>RS.ren g hs hr hb s x cs h
 | .ref t _,x,_,⟨a,cc,h,h1,h2⟩=>⟨a,cc,h,RT.ext g t x cc h1,h2.ext g⟩
 | .fn _ caps,x,_,⟨cc,h,h1⟩=>⟨cc,h,RS.ren g hs hr hb caps x cc h1⟩
 | .lit _,_,_,h=>h
 | .tup _,_,_,h=>h.elim
 | .top,_,_,h=>h
def qvQ (m:List (Int×Int)) (es:Array MapEntry):Prop:=es.toList.map (fun e=>(e.key,e.val))=m.map fun p=>(Value.int .i64 p.1,Value.int .i64 p.2)
def qbA (w:World) (K:Kinds):(s:Sh)→s.den→Obj→Prop
 | .rowc e,xs,o=>∃cs T,o=.cells cs T (0,0)∧RL (RT w K e) xs cs.toList
 | .mapc,m,o=>∃es c,o=.map es c∧qvQ m es
 | .tyc T s,x,o=>∃cs,o=.cells cs T (0,0)∧RS w K s x cs.toList
 |s,x,o=>∃cs T,o=.cells cs T (0,0)∧RS w K s x cs.toList
theorem qbA.of_RS {w:World} {K:Kinds} {s:Sh} {x:s.den} {cs:Array Value} {T:TypeId} (hb:s.bare=true) (h:RS w K s x cs.toList):qbA w K s x (.cells cs T (0,0)):=by
 cases s
 case rowc=>exact h.elim
 case mapc=>exact h.elim
 case tyc=>cases hb
 all_goals exact⟨cs,T,rfl,h⟩
theorem qbA.imp {w w':World} {K K':Kinds} (hrt:∀(t:Ty) (x:t.den) (cs:List Value),RT w K t x cs→RT w' K' t x cs) (hrs:∀(s:Sh) (x:s.den) (cs:List Value),RS w K s x cs→RS w' K' s x cs) {s:Sh} {x:s.den} {o:Obj} (h:qbA w K s x o):qbA w' K' s x o:=by
 cases s
 case rowc e=>obtain⟨cs,T,h1,h2⟩:=h;exact⟨cs,T,h1,RL.imp (hrt e) x _ h2⟩
 case mapc=>exact h
 case tyc T s=>obtain⟨cs,h1,h2⟩:=h;exact⟨cs,h1,hrs s x _ h2⟩
 all_goals exact(let⟨cs,T,h1,h2⟩:=h;⟨cs,T,h1,hrs _ x _ h2⟩)
theorem qbA.sub {w:World} {K:Kinds} {c v:AV} {off n:Nat} {g:Bool} {o:Obj} (hs:c.sub off n g=some v) (h:qbA w K c.sh c.v o):∃cs T,o=.cells cs T (0,0)∧RS w K c.sh c.v cs.toList:=by
 obtain⟨s,x⟩:=c
 cases s
 case rowc=>cases hs
 case mapc=>cases hs
 case tyc T s=>obtain⟨cs,h1,h2⟩:=h;exact⟨cs,T,h1,h2⟩
 all_goals exact h
theorem qsx (a b:AV):(AV.qkq a b).sh.bare=true:=by
 obtain⟨s,x⟩:=a
 obtain⟨t,y⟩:=b
 cases s<;>cases t<;>rfl
theorem Ty.upd_bare:∀(t:Ty) (x:t.den) (off:Nat) (y z:AV),y.sh.bare=true→Ty.upd t x off y=some z→z.sh.bare=true:=by
 intro t x off y z hy h
 cases t<;>simp only[Ty.upd] at h
 all_goals
  repeat' (split at h)
  all_goals first
   |(cases h;done)
   |(cases h;exact hy)
   |(cases h;exact qsx _ _)
   |(cases h;rfl)
theorem Sh.upd_bare:∀(s:Sh) (x:s.den) (off:Nat) (y z:AV),s.bare=true→y.sh.bare=true→Sh.upd s x off y=some z→z.sh.bare=true:=by
 intro s x off y z hs hy h
 cases s
 case ty t=>exact Ty.upd_bare t x off y z hy h
 case tyc=>cases hs
 all_goals
  simp only[Sh.upd] at h
  repeat' (split at h)
  all_goals first
   |(cases h;done)
   |(cases h;exact hy)
   |(cases h;exact qsx _ _)
theorem qbA.upd {w:World} {K:Kinds} {c y v:AV} {off:Nat} {o:Obj} (hs:c.upd off y=some v) (hy:y.sh.bare=true) (h:qbA w K c.sh c.v o) :
  ∃cs T,o=.cells cs T (0,0)∧RS w K c.sh c.v cs.toList∧∀cs':Array Value,RS w K v.sh v.v cs'.toList→qbA w K v.sh v.v (.cells cs' T (0,0)):=by
 obtain⟨s,x⟩:=c
 have hs':Sh.upd s x off y=some v:=hs
 cases s
 case rowc=>cases hs
 case mapc=>cases hs
 case tyc T s =>
  obtain⟨cs,h1,h2⟩:=h
  refine⟨cs,T,h1,h2,fun cs' h'=>?_⟩
  simp only[Sh.upd] at hs'
  split at hs'
  ·cases hs'
   exact⟨cs',rfl,h'⟩
  ·cases hs'
 all_goals
  obtain⟨cs,T,h1,h2⟩:=h
  exact⟨cs,T,h1,h2,fun cs' h'=>qbA.of_RS (Sh.upd_bare _ x off y v rfl hy hs') h'⟩
theorem qzH (ρ σ:Nat→Option Nat):∀(s:Sh) (x:s.den),(s.ren ρ σ x).sh.agg=s.agg
 | .ty _,_=>rfl
 | .pair _ _,_=>qiH _ _
 | .osl id e,_=>by simp only[Sh.ren];cases ρ id<;>rfl
 | .box id off,_=>by simp only[Sh.ren];cases σ id<;>rfl
 | .boxi id off n e,_=>by simp only[Sh.ren];cases σ id<;>rfl
 | .win id e,_=>by simp only[Sh.ren];cases σ id<;>rfl
 | .elp id e o,_=>by simp only[Sh.ren];cases σ id<;>rfl
 | .mp id,_=>by simp only[Sh.ren];cases σ id<;>rfl
 | .nbox id,_=>by simp only[Sh.ren];cases σ id<;>rfl
 | .tsl T id,_=>by simp only[Sh.ren];cases ρ id<;>rfl
 | .wsl _ id e,_=>by simp only[Sh.ren];cases σ id<;>rfl
 | .wref id e,_=>by simp only[Sh.ren];cases σ id<;>rfl
 | .rowc _,_=>rfl
 | .mapc,_=>rfl
 | .tyc _ s,x=>qzH ρ σ s x
 | .ref _ _,_=>rfl
 | .fn _ _,_=>rfl
 | .lit _,_=>rfl
 | .tup _,_=>rfl
 | .top,_=>rfl
theorem qNF (ρ σ:Nat→Option Nat):∀(s:Sh) (x:s.den),s.bare=true→(s.ren ρ σ x).sh.bare=true
 | .ty _,_,_=>rfl
 | .pair _ _,_,_=>qsx _ _
 | .osl id e,_,_=>by simp only[Sh.ren];cases ρ id<;>rfl
 | .box id off,_,_=>by simp only[Sh.ren];cases σ id<;>rfl
 | .boxi id off n e,_,_=>by simp only[Sh.ren];cases σ id<;>rfl
 | .win id e,_,_=>by simp only[Sh.ren];cases σ id<;>rfl
 | .elp id e o,_,_=>by simp only[Sh.ren];cases σ id<;>rfl
 | .mp id,_,_=>by simp only[Sh.ren];cases σ id<;>rfl
 | .nbox id,_,_=>by simp only[Sh.ren];cases σ id<;>rfl
 | .tsl T id,_,_=>by simp only[Sh.ren];cases ρ id<;>rfl
 | .wsl _ id e,_,_=>by simp only[Sh.ren];cases σ id<;>rfl
 | .wref id e,_,_=>by simp only[Sh.ren];cases σ id<;>rfl
 | .rowc _,_,_=>rfl
 | .mapc,_,_=>rfl
 | .tyc _ _,_,h=>by cases h
 | .ref _ _,_,_=>rfl
 | .fn _ _,_,_=>rfl
 | .lit _,_,_=>rfl
 | .tup _,_,_=>rfl
 | .top,_,_=>rfl
theorem qbA.ren {w w':World} {K K':Kinds} {ρ σ:Nat→Option Nat} (g:Keep w K w' K') (hs:w.heap.size≤w'.heap.size)
  (hr:∀b id u j,b<w.heap.size→K b=.row id u→ρ id=some j→K' b=.row j u∧w'.heap[b]?=w.heap[b]?)
  (hb:∀b id j,b<w.heap.size→K b=.box id→σ id=some j→K' b=.box j∧∀n,qdb w b n→qdb w' b n) {a:AV} {o:Obj} (h:qbA w K a.sh a.v o):qbA w' K' (a.ren ρ σ).sh (a.ren ρ σ).v o:=by
 obtain⟨s,x⟩:=a
 cases s
 case rowc e=>obtain⟨cs,T,h1,h2⟩:=h;exact⟨cs,T,h1,RL.imp (RT.ext g e) x _ h2⟩
 case mapc=>exact h
 case tyc T s=>obtain⟨cs,h1,h2⟩:=h;exact⟨cs,h1,RS.ren g hs hr hb s x _ h2⟩
 case tup=>obtain⟨cs,T,h1,h2⟩:=h;exact h2.elim
 all_goals
  obtain⟨cs,T,h1,h2⟩:=h
  subst h1
  exact qbA.of_RS (qNF ρ σ _ x rfl) (RS.ren g hs hr hb _ x _ h2)
theorem R1.toRV {w:World} {K:Kinds} {a:AV} {v:Value} (h:R1 w K a.sh a.v v):RV w K a v:=by
 obtain⟨s,x⟩:=a
 cases s
 case tup=>exact h.1.elim
 case top=>trivial
 all_goals exact h
section
variable {w w':World} {K K':Kinds} {ρ σ:Nat→Option Nat} (g:Keep w K w' K') (hs:w.heap.size≤w'.heap.size)
  (hr:∀b id u j,b<w.heap.size→K b=.row id u→ρ id=some j→K' b=.row j u∧w'.heap[b]?=w.heap[b]?)
  (hb:∀b id j,b<w.heap.size→K b=.box id→σ id=some j→K' b=.box j∧∀n,qdb w b n→qdb w' b n)
include g hs hr hb
theorem R1.ren (s:Sh) (x:s.den) (v:Value) (h:R1 w K s x v):R1 w' K' (s.ren ρ σ x).sh (s.ren ρ σ x).v v :=
 ⟨RS.ren g hs hr hb s x _ h.1,by rw[qzH];exact h.2.1,by rw[qzH];exact h.2.2⟩
theorem qjy.ren:∀(s:Sh) (x:s.den) (vs:List Value),qjy w K s x vs→qjy w' K' (s.renT ρ σ x).sh (s.renT ρ σ x).v vs:=by
 intro s
 induction s with
 |pair a b _ ihb =>
  intro x vs hh
  cases vs with
  |nil=>exact hh.elim
  |cons v vs=>exact⟨R1.ren g hs hr hb a x.1 v hh.1,ihb x.2 vs hh.2⟩
 |ty t=>intro x vs hh;cases t<;>first|exact hh |exact hh.elim
 |osl=>intro x vs hh;exact hh.elim
 |box=>intro x vs hh;exact hh.elim
 |boxi=>intro x vs hh;exact hh.elim
 |win=>intro x vs hh;exact hh.elim
 |elp=>intro x vs hh;exact hh.elim
 |mp=>intro x vs hh;exact hh.elim
 |nbox=>intro x vs hh;exact hh.elim
 |tsl=>intro x vs hh;exact hh.elim
 |wsl=>intro x vs hh;exact hh.elim
 |wref=>intro x vs hh;exact hh.elim
 |rowc=>intro x vs hh;exact hh.elim
 |mapc=>intro x vs hh;exact hh.elim
 |tyc=>intro x vs hh;exact hh.elim
 |ref=>intro x vs hh;exact hh.elim
 |fn=>intro x vs hh;exact hh.elim
 |lit=>intro x vs hh;exact hh.elim
 |tup=>intro x vs hh;exact hh.elim
 |top=>intro x vs hh;exact hh.elim
theorem RV.ren {a:AV} {v:Value} (h:RV w K a v):RV w' K' (a.ren ρ σ) v:=by
 obtain⟨s,x⟩:=a
 cases s
 case tup s=>obtain⟨vs,e,hh⟩:=h;exact⟨vs,e,qjy.ren g hs hr hb s x _ hh⟩
 case top=>trivial
 all_goals exact R1.toRV (R1.ren g hs hr hb _ x v h)
end
end Go.Av
end
